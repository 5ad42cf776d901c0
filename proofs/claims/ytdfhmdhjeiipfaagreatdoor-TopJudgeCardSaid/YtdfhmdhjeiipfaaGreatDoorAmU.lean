/-
  The abstract machine: the heap while a loop through a map writes to one row.
  Conditions: none.
-/
import Derived.Test.YtdfhmdhjeiipfaaGreatDoorAmL
open Array renaming getElem?_eq_some_iff → dO, getElem?_eq_getElem → dU, getD_eq_getD_getElem? → dR
open BitVec renaming ofInt → fO, toNat_and → gU
open Bool renaming and_eq_true → dY, or_eq_true → dP, false_eq_true → fY, or_eq_false_iff → fH, not_true → fN, false_or → fP, and_self → fZ
open Go.Region renaming binds → dS, wanted → fD, ready → fK
open List renaming getElem?_eq_getElem → dQ, getD_eq_getElem?_getD → dT, toArray → dX, range → dZ, take_append_drop → fI, all_eq_true → fU, getElem?_map → fB, getElem?_eq_none → fF, set_set → fG, getElem?_set → fQ, getElem?_eq_some_iff → fR, countP_singleton → fT, contains_iff_mem → fV, mem_of_getElem? → fW, set_comm → fX, toList_toArray → gA, countP_append → gE, mem_range'_1 → gI, length_set → gY, map_append → gC, mem_range → gJ
open Nat renaming lt_of_lt_of_le → dV, le_refl → fA, le_trans → fJ, pow_le_pow_right → fL, lt_of_le_of_lt → fM, ble → fS, lt_trichotomy → gO, strongRecOn → gB, and_le_left → gD, testBit_and → gG, min_eq_left → gH
open Option renaming bind_some → dW, bind_eq_bind → fE, map_eq_some_iff → fC
namespace Go.Am
def Xj (E:List (Int × Bool)) (l:List Int) (j:Nat):List Int:=match E[j]? with
  | some (w,m)=>l.set w.toNat (l.getD w.toNat 0+if m then 1 else -1)
  | none=>l
def Qd (E:List (Int × Bool)) (l:List Int) (D:List Nat):List Int:=D.foldl (Xj E) l
theorem WA (E:List (Int × Bool)) (l:List Int) (D:List Nat) (j:Nat):Qd E l (D ++ [j])=Xj E (Qd E l D) j:=by simp[Qd]
theorem Jl (E:List (Int × Bool)) (l:List Int) (j:Nat):(Xj E l j).length=l.length:=by unfold Xj; split <;> simp
theorem bumps_len (E:List (Int × Bool)) (D:List Nat):∀ l:List Int,(Qd E l D).length=l.length:=by
 induction D with
 | nil=>intro l; rfl
 | cons j D ih=>intro l; show(Qd E (Xj E l j) D).length=_; rw[ih,Jl]
theorem QD (e:List Int) (x i:Nat) (c:Int):(e.set x c).getD i 0=if i=x∧x<e.length then c else e.getD i 0:=by
 simp only[dT,fQ];by_cases h:x=i;subst h;by_cases h2:x<e.length;simp[h2];simp[h2];simp[h,Ne.symm h]
theorem VK (E:List (Int × Bool)) (l:List Int) (j i:Nat):(Xj E l j).getD i 0=l.getD i 0+match E[j]? with
    | some (w,m)=>if w.toNat=i∧i<l.length then (if m then 1 else -1) else 0
    | none=>0:=by
 unfold Xj
 cases E[j]? with
 | none=>simp
 | some p=>
  obtain⟨w,m⟩:=p;simp only;rw[QD];by_cases h:w.toNat=i∧i<l.length;obtain⟨rfl,h2⟩:=h;simp[h2];have h2:¬ (i=w.toNat∧w.toNat<l.length):=fun h3=>h ⟨h3.1.symm,by rw[h3.1]; exact h3.2⟩
  simp only[if_neg h,if_neg h2,Int.add_zero]
theorem extJ {a b:List Int} (hl:a.length=b.length) (h:∀ i,a.getD i 0=b.getD i 0):a=b:=by
 apply List.ext_getElem hl;intro i h1 h2;have:=h i;rwa [dT,dT,dQ h1,dQ h2] at this
theorem R5 (E:List (Int × Bool)) (l:List Int) (i j:Nat):Xj E (Xj E l i) j=Xj E (Xj E l j) i:=by
 refine extJ (by simp only[Jl]) ?_;intro k;rw[VK,VK,VK,VK,Jl,Jl];omega
theorem bumps_perm {E:List (Int × Bool)} {D D':List Nat} (h:D.Perm D') (l:List Int):Qd E l D=Qd E l D':=
  h.foldl_eq' (fun x _ y _ z=>R5 E z x y) l
def Zq (h1:AHeap) (bI FI bm n bn Fn pn:Nat) (cs:List AV) (off:Nat) (f:Fam) (D:List Nat) (xs:List AV):AHeap:=
  ((h1.set bI (.obj FI (.mwalk bm n D))).set bn (.cells (some Fn) pn (putL cs off xs))).setFam Fn (if D = [] then f else {f with live:=some [bn]})
section
variable {h1:AHeap} {bI FI bm n bn Fn pn:Nat} {cs:List AV} {off:Nat} {f:Fam}
theorem J0 {D:List Nat} {xs:List AV} (b:Nat) (hI:bI<h1.next) (hn:bn<h1.next):(Zq h1 bI FI bm n bn Fn pn cs off f D xs).get b=if b=bn then some (.cells (some Fn) pn (putL cs off xs)) else if b=bI then some (.obj FI (.mwalk bm n D)) else h1.get b:=by
 unfold AHeap.next at hI hn;simp only[Zq,AHeap.setFam,AHeap.set,AHeap.get,fQ,gY];by_cases e1:bn=b;subst e1; simp[hn];by_cases e2:bI=b;subst e2; simp[e1,Ne.symm e1,hI];simp[e1,e2,Ne.symm e1,Ne.symm e2]
theorem hpush_fam {D:List Nat} {xs:List AV} (hF:Fn<h1.nfam):(Zq h1 bI FI bm n bn Fn pn cs off f D xs).fam Fn=some (if D = [] then f else {f with live:=some [bn]}):=by
 unfold AHeap.nfam at hF;simp[Zq,AHeap.setFam,AHeap.set,AHeap.fam,hF]
theorem Wo {α:Type} {l:List α} {i:Nat} {a : α} (h:l[i]? = some a):l.set i a=l:=by
 obtain⟨hi,rfl⟩:=fR.1 h;exact List.set_getElem_self hi
theorem putL_same {cs xs:List AV} {off:Nat} (h:(cs.drop off).take xs.length=xs):putL cs off xs=cs:=by
 unfold putL;have h2:cs.drop off=xs ++ cs.drop (off+xs.length):=by
  have:=fI xs.length (cs.drop off);rw[h,List.drop_drop] at this;exact this.symm
 rw[List.append_assoc,←h2,fI]
theorem hpush_nil {xs:List AV} (hI:h1.get bI=some (.obj FI (.mwalk bm n []))) (hn:h1.get bn=some (.cells (some Fn) pn cs)) (hF:h1.fam Fn=some f) (hx:(cs.drop off).take xs.length=xs):Zq h1 bI FI bm n bn Fn pn cs off f [] xs=h1:=by
 unfold Zq;rw[putL_same hx,if_pos rfl];unfold AHeap.get at hI hn;unfold AHeap.fam at hF;unfold AHeap.setFam AHeap.set;simp only[Wo hI,Wo hn,Wo hF]
theorem hpush_step {D D' : List Nat} {xs xs' : List AV} {c' : List AV} {f' : Fam} (hne : bI ≠ bn) (hD : D' ≠ []) (hc : c' = putL cs off xs') (hf : f' = { f with live := some [bn] }) :
    (((Zq h1 bI FI bm n bn Fn pn cs off f D xs).set bI (.obj FI (.mwalk bm n D'))).set bn (.cells (some Fn) pn c')).setFam Fn f'=Zq h1 bI FI bm n bn Fn pn cs off f D' xs':=by
 subst hc hf;unfold Zq;rw[if_neg hD];unfold AHeap.setFam AHeap.set;simp only[AHeap.mk.injEq,and_true];refine⟨?_,?_⟩;rw[fX _ _ hne.symm,fG,fG];rw[fG]
theorem hpush_gone {D D':List Nat} {xs:List AV} (hne:bI≠bn) (hD:D = []↔D' = []):(Zq h1 bI FI bm n bn Fn pn cs off f D xs).set bI (.obj FI .gone)=(Zq h1 bI FI bm n bn Fn pn cs off f D' xs).set bI (.obj FI .gone):=by
 unfold Zq;have:(if D = [] then f else {f with live:=some [bn]}:Fam)=if D' = [] then f else {f with live:=some [bn]}:=by
  by_cases h:D = [];rw[if_pos h,if_pos (hD.1 h)];rw[if_neg h,if_neg (fun h2=>h (hD.2 h2))]
 rw[this];unfold AHeap.setFam AHeap.set;simp only[AHeap.mk.injEq,and_true];rw[fX _ _ hne.symm,fG,fX _ _ hne.symm,fG]
end
theorem US {P:Program} {ρ:Operand→AV} {o:Oper} {h h':AHeap} {t:TypeId} {x ix y:Operand} (ho:o.op = .insert t x ix y) (hs:Ji P h t (ρ x) (ρ ix) (ρ y)=some h'):StepS P ρ o h (.tup []) h':=by
 obtain⟨g,hrun⟩:=Yr (o:={o with op:=.mapUpdate t x ix y}) rfl hs;refine⟨g,?_⟩;intro φ a w K Q hfr r hops hk;have:=hrun φ a w K Q hfr r (fun z hz=>hops z (by rw[ho]; exact hz)) hk;have he:execOp a.eval o=execOp a.eval {o with op:=.mapUpdate t x ix y}:=by simp only[execOp,ho]
 unfold Oper.wp at this⊢;rw[he];exact this
section maps
variable {κ ν:Type} [DecidableEq κ]
variable {P:Program} {n:Nat} {ops:Array Oper} {ex:List Nat} {Q:KF→AHeap→Prop} {k:Nat} {os:List Oper} {K:KF} {h h0:AHeap} {d:Nat} {ty:TypeId} {pos:String} {after:Array Edge} {objs:List Obj}
theorem KOps.insertK {t kt : TypeId} {z : AV} {kf : κ → AV} {vf : ν → AV} {l : List (κ × ν)} {v u : AV} {x ix y : Operand} {a : κ} {b : ν} {i : Nat} [hx : EvK h.globs n K x v] (hi : KK h.globs n K ix = kf a) [hy : EvK h.globs n K y u] (hu : u = vf b) [ht : MpT P t kt z] [hkt : KeyT P kt kf]
    (st:St h0 h objs) (hv:Zr v) (hk':objs[i]? = some (mapO v (entL kf vf l))) (hex:ex.contains k=false)
    (hk:∀ h',St h0 h' (objs.set i (mapO v (entL kf vf (Qn l a b))))→KOps P n ops ex Q (k+1) os K h'):KOps P n ops ex Q k (⟨none,.insert t x ix y,ty,pos,after,none⟩::os) K h:=by
 obtain⟨bb,G,rfl,hg⟩:=St.rdM st i hk' hv;obtain⟨et,h1,h2⟩:=ht.mp;obtain⟨r,h3,-,h4⟩:=YK (P:=P) (kt:=kt) (kf:=kf) (vf:=vf) l a;have hput:Ji P h t (.mp bb) (kf a) (vf b)=some (h.set bb (.obj G (.map (entL kf vf (Qn l a b))))):=by
  simp only[Ji,h1,hg,hkt.ok,if_true,h3,Option.map_some];rw[←h4 b]
 refine Zn (v:=.tup []) (h':=h.set bb (.obj G (.map (entL kf vf (Qn l a b))))) rfl hex (US rfl ?_) (hk _ ?_);rw[hx.eq,hi,hy.eq,hu]; exact hput;refine St.setT (x:=.map (entL kf vf l)) (x':=.map (entL kf vf (Qn l a b))) st hk' (fun _=>rfl) rfl hg ?_;intro F hm;obtain⟨b',G',f,hF,hlo,hb',hg',hf⟩:=hm.map hv;cases hb';rw[hg] at hg'; cases hg';exact⟨hF,hlo,f,hf⟩
end maps
section drawS
variable {P:Program} {n:Nat} {Q:Ex→KF→AHeap→Prop} {K:KF} {h:AHeap}
theorem KA.drawS {id c r t a d : Nat} {ops : Array Oper} {l1 l2 : List Oper} {o : Oper} (ex : List Nat) (hm : P.follows .mixedOrders = true) (hl1 : ops.toList.take (c + 1) = l1) (hl2 : ops.toList.drop (c + 1) = l2) (hc : l1.length = c + 1) (hok : rgOk n ops.toList ex [(c, r)] = true) (ho : ops[r]? = some o) (hop : o.op = .load t (.tmp a)) (hod : o.dst = some d) (hdz : d < n) (hrc : r < c)
    (hno:((List.range' r (c+1 - r)).all fun j=>match ops[j]? with|some oj=>oj.dst != some a && (j == r || oj.dst != some d)|none=>true)=true)
    (hw:KOps P n ops ex (fun K1 h1=>K9 P h1 t ((KJ n K1).getD a .bot)=some ((KJ n K1).getD d .bot)∧KOps P n ops ex (Q .normal) (c+1) l2 K1 h1) 0 l1 K h):KA P n (.region id ops true) Q K h:=by
 refine AW.region_drawS (c:=c) (r:=r) (t:=t) (a:=a) (d:=d) (l1:=l1) (l2:=l2) hm (by rw[←hl1,←hl2,fI]) hc (rgOk_sound rfl hok) (Qg n K) hrc ho hop hod hdz ?_ ?_;intro j oj h1 h2 hj;have:=fU.1 hno j (gI.2 ⟨h1,by omega⟩);simp only[hj,dY,bne_iff_ne,dP,beq_iff_eq] at this;exact⟨this.1,fun h3=>this.2.resolve_left (by omega)⟩;refine QN ?_ _ _ _ _ hw;rintro fr1 h1 ⟨K1,rfl,hchk,hrest⟩;exact⟨hchk,hrest⟩
theorem KA.drawB {id c r t a d : Nat} {ops : Array Oper} {l1 l2 : List Oper} {o : Oper} (ex : List Nat) (hm : P.follows .mixedOrders = true) (hl1 : ops.toList.take c = l1) (hl2 : ops.toList.drop c = l2) (hc : l1.length = c) (hok : rgOk n ops.toList ex [(c, r)] = true) (ho : ops[r]? = some o) (hop : o.op = .load t (.tmp a)) (hod : o.dst = some d) (hdz : d < n) (hcr : c < r)
    (hno:((List.range' r (ops.size - r)).all fun j=>match ops[j]? with|some oj=>oj.dst != some a && (j == r || oj.dst != some d)|none=>true)=true)
    (hw:KOps P n ops ex (fun K1 h1=>KOps P n ops ex (fun K2 h2=>K9 P h1 t ((KJ n K2).getD a .bot)=some ((KJ n K2).getD d .bot)∧Q .normal K2 h2) c l2 K1 h1) 0 l1 K h):KA P n (.region id ops true) Q K h:=by
 refine AW.region_drawB (c:=c) (r:=r) (t:=t) (a:=a) (d:=d) (l1:=l1) (l2:=l2) hm (by rw[←hl1,←hl2,fI]) hc (rgOk_sound rfl hok) (Qg n K) hcr ho hop hod hdz ?_ ?_;intro j oj h1 hj;have hlt:=(dO.1 hj).1;have:=fU.1 hno j (gI.2 ⟨h1,by omega⟩);simp only[hj,dY,bne_iff_ne,dP,beq_iff_eq] at this;exact⟨this.1,fun h3=>this.2.resolve_left (by omega)⟩;refine QN ?_ _ _ _ _ hw;rintro fr1 h1 ⟨K1,rfl,hrest⟩;refine QN ?_ _ _ _ _ hrest;rintro fr2 h2 ⟨K2,rfl,hchk,hq⟩;exact⟨hchk,K2,rfl,hq⟩
end drawS
section drawS2
variable {P:Program} {n:Nat} {ops:Array Oper} {ex:List Nat} {Q:KF→AHeap→Prop} {k:Nat} {K:KF} {h:AHeap}
theorem KOps.doneS {t a d s j : Nat} {l2 : List Oper} {p v y : AV} {xs : List AV} [hla : Look K a p] [hld : Look K d y] [ht : ScT P t] (hna : fS n a = false) (hnd : fS n d = false) (ha : AddrOf p v s j) (hr : Rd h v s xs) (hy : xs[j]? = some y) (hrest : KOps P n ops ex Q k l2 K h) :
    KOps P n ops ex (fun K1 h1=>K9 P h1 t ((KJ n K1).getD a .bot)=some ((KJ n K1).getD d .bot)∧KOps P n ops ex Q k l2 K1 h1) k [] K h:=by
 refine Og ⟨?_,hrest⟩;rw[QP,QP,hna,hnd,cond_false,cond_false,hla.eq,hld.eq];exact hr.load ha hy
theorem KOps.doneB {t a d s j : Nat} {R : KF → AHeap → Prop} {hA : AHeap} {p v y : AV} {xs : List AV} [hla : Look K a p] [hld : Look K d y] [ht : ScT P t] (hna : fS n a = false) (hnd : fS n d = false) (ha : AddrOf p v s j) (hr : Rd hA v s xs) (hy : xs[j]? = some y) (hrest : R K h) :
    KOps P n ops ex (fun K1 h1=>K9 P hA t ((KJ n K1).getD a .bot)=some ((KJ n K1).getD d .bot)∧R K1 h1) k [] K h:=by
 refine Og ⟨?_,hrest⟩;rw[QP,QP,hna,hnd,cond_false,cond_false,hla.eq,hld.eq];exact hr.load ha hy
end drawS2
section calls
variable {P:Program} {n:Nat} {ops:Array Oper} {ex:List Nat} {Q:KF→AHeap→Prop} {k:Nat} {os:List Oper} {K:KF} {h:AHeap} {d:Nat} {ty:TypeId} {pos:String} {after:Array Edge}
theorem Kl {f : FuncId} {g : Operand} {caps : List AV} {l : List Operand} {vs : List AV} {tys : Array TypeId} {R : AV → AHeap → Prop} [hg : EvK h.globs n K g (.fn f caps)] [hl : EvKs h.globs n K l vs] (hR : ∀ r h', R r h' → Keeps h h')
    (hc:ACalls P f (vs ++ caps) h R) (hk:∀ r h',R r h'→KOps P n ops ex Q (k+1) os ((d,r)::K) h'):KOps P n ops ex Q k (⟨some d,.call {callee:=.value g,args:=dX l,argTypes:=tys},ty,pos,after,none⟩::os) K h:=by
 obtain⟨r,h',hev,hr⟩:=hc;refine QZ (v:=r) (h':=h') ?_ (fun _ hw=>(hR r h' hr).hext hw) (hk r h' hr);refine Ev.step (g:=g) (args:=dX l) (tys:=tys) rfl hg.eq ?_;rw[gA,hl.eq];exact hev
end calls
section rules
variable {P:Program} {n:Nat} {ops:Array Oper} {ex:List Nat} {Q:KF→AHeap→Prop} {k:Nat} {os:List Oper} {K:KF} {h h':AHeap} {ty:TypeId} {pos:String} {after:Array Edge}
theorem KOps.storeE {t : TypeId} {x y : Operand} {p v : AV} [hx : EvK h.globs n K x p] [hy : EvK h.globs n K y v] (hex : ex.contains k = false) (hs : Z3 P h t p v = some (.tup [], h')) (hk : KOps P n ops ex Q (k + 1) os K h') :
    KOps P n ops ex Q k (⟨none,.store t x y,ty,pos,after,none⟩::os) K h:=by
 refine KOps.chain0 (kill:=true) (v:=.tup []) rfl ?_ (fun hc=>by rw[hex] at hc; cases hc) hk;simp only[Zo,hx.eq,hy.eq];exact hs
end rules
end Go.Am
namespace Go.Am
instance ky3:KeyT Go.Proofs.Tryz.prog 3 (AV.int .i64):=KeyT.int aB
instance st9:StT Go.Proofs.Tryz.prog 9:=⟨by kernel_rfl⟩
instance ar22:ArT Go.Proofs.Tryz.prog 22 4:=ArT.of aB
instance fd48_0:FdT Go.Proofs.Tryz.prog 48 0 0:=FdT.of aB
instance fd48_1:FdT Go.Proofs.Tryz.prog 48 1 1:=FdT.of aB
instance fd52_0:FdT Go.Proofs.Tryz.prog 52 0 0:=FdT.of aB
instance fd52_1:FdT Go.Proofs.Tryz.prog 52 1 1:=FdT.of aB
instance fd52_2:FdT Go.Proofs.Tryz.prog 52 2 2:=FdT.of aB
instance fd52_3:FdT Go.Proofs.Tryz.prog 52 3 3:=FdT.of aB
instance fd59_0:FdT Go.Proofs.Tryz.prog 59 0 0:=FdT.of aB
instance fd59_1:FdT Go.Proofs.Tryz.prog 59 1 1:=FdT.of aB
instance fd103_0:FdT Go.Proofs.Tryz.prog 103 0 0:=FdT.of aB
instance fd103_1:FdT Go.Proofs.Tryz.prog 103 1 2:=FdT.of aB
instance fd118_0:FdT Go.Proofs.Tryz.prog 118 0 0:=FdT.of aB
instance fd118_1:FdT Go.Proofs.Tryz.prog 118 1 1:=FdT.of aB
instance fd134_0:FdT Go.Proofs.Tryz.prog 134 0 0:=FdT.of aB
instance fd134_1:FdT Go.Proofs.Tryz.prog 134 1 1:=FdT.of aB
instance fd134_2:FdT Go.Proofs.Tryz.prog 134 2 2:=FdT.of aB
instance fd134_3:FdT Go.Proofs.Tryz.prog 134 3 3:=FdT.of aB
instance fd134_4:FdT Go.Proofs.Tryz.prog 134 4 4:=FdT.of aB
instance fd134_5:FdT Go.Proofs.Tryz.prog 134 5 5:=FdT.of aB
instance fd134_6:FdT Go.Proofs.Tryz.prog 134 6 6:=FdT.of aB
instance mp135:MpT Go.Proofs.Tryz.prog 135 9 (.nilp):=MpT.of aB
instance mp136:MpT Go.Proofs.Tryz.prog 136 3 (.nilp):=MpT.of aB
instance mp137:MpT Go.Proofs.Tryz.prog 137 3 (.bool false):=MpT.of aB
instance fd139_0:FdT Go.Proofs.Tryz.prog 139 0 0:=FdT.of aB
instance fd139_1:FdT Go.Proofs.Tryz.prog 139 1 1:=FdT.of aB
instance fd139_2:FdT Go.Proofs.Tryz.prog 139 2 2:=FdT.of aB
instance fd139_3:FdT Go.Proofs.Tryz.prog 139 3 3:=FdT.of aB
instance fd139_4:FdT Go.Proofs.Tryz.prog 139 4 4:=FdT.of aB
instance fd139_5:FdT Go.Proofs.Tryz.prog 139 5 5:=FdT.of aB
instance fd149_0:FdT Go.Proofs.Tryz.prog 149 0 0:=FdT.of aB
instance fd149_1:FdT Go.Proofs.Tryz.prog 149 1 2:=FdT.of aB
instance fd163_0:FdT Go.Proofs.Tryz.prog 163 0 0:=FdT.of aB
instance fd163_1:FdT Go.Proofs.Tryz.prog 163 1 1:=FdT.of aB
instance ar169:ArT Go.Proofs.Tryz.prog 169 8:=ArT.of aB
instance fd197_0:FdT Go.Proofs.Tryz.prog 197 0 0:=FdT.of aB
instance fd197_1:FdT Go.Proofs.Tryz.prog 197 1 1:=FdT.of aB
instance fd197_2:FdT Go.Proofs.Tryz.prog 197 2 2:=FdT.of aB
instance mp198:MpT Go.Proofs.Tryz.prog 198 3 (.agg [.int .i64 0,.int .i64 0,.bool false]):=MpT.of aB
instance fd257_0:FdT Go.Proofs.Tryz.prog 257 0 0:=FdT.of aB
instance fd259_0:FdT Go.Proofs.Tryz.prog 259 0 0:=FdT.of aB
instance fd259_1:FdT Go.Proofs.Tryz.prog 259 1 1:=FdT.of aB
instance fd259_2:FdT Go.Proofs.Tryz.prog 259 2 2:=FdT.of aB
instance fd261_0:FdT Go.Proofs.Tryz.prog 261 0 0:=FdT.of aB
instance fd261_1:FdT Go.Proofs.Tryz.prog 261 1 1:=FdT.of aB
instance fd261_2:FdT Go.Proofs.Tryz.prog 261 2 2:=FdT.of aB
instance fd263_0:FdT Go.Proofs.Tryz.prog 263 0 0:=FdT.of aB
instance fd263_1:FdT Go.Proofs.Tryz.prog 263 1 1:=FdT.of aB
instance fd265_0:FdT Go.Proofs.Tryz.prog 265 0 0:=FdT.of aB
instance fd265_1:FdT Go.Proofs.Tryz.prog 265 1 1:=FdT.of aB
instance fd267_0:FdT Go.Proofs.Tryz.prog 267 0 0:=FdT.of aB
instance fd267_1:FdT Go.Proofs.Tryz.prog 267 1 1:=FdT.of aB
instance fd269_0:FdT Go.Proofs.Tryz.prog 269 0 0:=FdT.of aB
instance fd283_0:FdT Go.Proofs.Tryz.prog 283 0 0:=FdT.of aB
instance fd283_1:FdT Go.Proofs.Tryz.prog 283 1 1:=FdT.of aB
instance fd283_2:FdT Go.Proofs.Tryz.prog 283 2 2:=FdT.of aB
instance fd283_3:FdT Go.Proofs.Tryz.prog 283 3 3:=FdT.of aB
instance ky303:KeyT Go.Proofs.Tryz.prog 303 (AV.int .u64):=KeyT.int aB
instance ar304:ArT Go.Proofs.Tryz.prog 304 2:=ArT.of aB
instance fd306_0:FdT Go.Proofs.Tryz.prog 306 0 0:=FdT.of aB
instance fd306_1:FdT Go.Proofs.Tryz.prog 306 1 4:=FdT.of aB
instance fd306_2:FdT Go.Proofs.Tryz.prog 306 2 6:=FdT.of aB
instance mp326:MpT Go.Proofs.Tryz.prog 326 303 (.int .i64 0):=MpT.of aB
instance fd328_0:FdT Go.Proofs.Tryz.prog 328 0 0:=FdT.of aB
instance fd348_0:FdT Go.Proofs.Tryz.prog 348 0 0:=FdT.of aB
instance fd348_1:FdT Go.Proofs.Tryz.prog 348 1 1:=FdT.of aB
instance fd348_2:FdT Go.Proofs.Tryz.prog 348 2 2:=FdT.of aB
instance fd382_0:FdT Go.Proofs.Tryz.prog 382 0 0:=FdT.of aB
instance fd382_1:FdT Go.Proofs.Tryz.prog 382 1 1:=FdT.of aB
theorem mixed:Go.Proofs.Tryz.prog.follows .mixedOrders=true:=by kernel_rfl
end Go.Am
namespace Go.Am
theorem eqIn_nilm {P:Program} {t kt et:TypeId} (d:Nat) (h:P.underlying t=some (.map kt et)) (b:Option Nat) (w:World):(Op.equalIn (d+1) t (.map b) (.map none)).run P w = .ok b.isNone w:=by
 cases b <;> simp[Op.equalIn,run_underlying h]
theorem eq_nilm {P:Program} {t kt et:TypeId} (h:P.underlying t=some (.map kt et)) (b:Option Nat) (w:World):(Op.equal t (.map b) (.map none)).run P w = .ok b.isNone w:=eqIn_nilm 9999 h b w
theorem T3 {P:Program} {t kt et:TypeId} (h:P.underlying t=some (.map kt et)) (b:Option Nat) (w:World):(binOp .eql t (.map b) (.map none)).run P w = .ok (.bool b.isNone) w:=by
 have:binOp .eql t (.map b) (.map none)=(do pure (Value.bool (←Op.equal t (.map b) (.map none))):Sem Value):=by cases b <;> rfl
 rw[this]; simp[eq_nilm h]
theorem T4 {P:Program} {t kt et:TypeId} (h:P.underlying t=some (.map kt et)) (b:Option Nat) (w:World):(binOp .neq t (.map b) (.map none)).run P w = .ok (.bool !b.isNone) w:=by
 have:binOp .neq t (.map b) (.map none)=(do pure (Value.bool (!(←Op.equal t (.map b) (.map none)))):Sem Value):=by cases b <;> rfl
 rw[this]; simp[eq_nilm h]
theorem PartOf.one {r v:AV} {s lo hi:Nat} (h:PartOf r v s lo hi):r.one=true:=by
 rcases h with ⟨rfl,_⟩|⟨b,off,n,full,full',_,rfl,_⟩ <;> rfl
def AV.mapNil : AV → Option Bool
  | .nilm=>some true
  | .mp _=>some false
  | _=>none
theorem AV.mapNil_mp {q:AV} (h:q.mapNil=some false):Zr q:=by
 cases q <;> simp[AV.mapNil] at h
 exact⟨_,rfl⟩
theorem Tt {P : Program} {ρ : Operand → AV} {o : Oper} {h : AHeap} {t t' : TypeId} {p : TypeId × TypeId} {x y : Operand} {b : Bool} {op : BinOp} (ho : o.op = .binOp op t x y t') (hop : op = .eql ∨ op = .neq) (hm : Xc P t = some p) (hx : (ρ x).mapNil = some b) (hy : ρ y = .nilm) :
    StepS P ρ o h (.bool (if op = .eql then b else !b)) h:=by
 refine⟨HGrow.refl _,?_⟩;intro φ a w K Q hfr r hops hk;have hvx:=hops x aN;have hvy:=hops y aN;have hu:=ZZ hm;rw[hy] at hvy;generalize hqx:a.eval x=qx at hvx;generalize hqy:a.eval y=qy at hvy;cases hvy;have hex:∃ q,qx = .map q∧q.isNone=b:=by
  generalize ρ x=vx at hx hvx
  cases vx <;> simp only[AV.mapNil,Option.some.injEq,reduceCtorEq] at hx
  cases hvx; subst hx; exact⟨_,rfl,rfl⟩
  cases hvx; subst hx; exact⟨_,rfl,rfl⟩
 obtain⟨q,rfl,hb⟩:=hex;have hrun:(execOp a.eval o).run P w = .ok (.value (.bool (if op = .eql then b else !b))) w:=by
  rcases hop with rfl|rfl
  simp[execOp,ho,hqx,hqy,eqGuard_at_map,T3 hu,hb];simp[execOp,ho,hqx,hqy,eqGuard_at_map,T4 hu,hb]
 exact wp_of_run hrun (hk φ _ w (Trans.refl _ _ _) r (.bool _))
theorem build_s1 {P:Program} {t:TypeId} {z0 z1 z2 x:AV} (hz:Qf P t=some (.agg [z0,z1,z2])) (hz1 : [z0,z1,z2].all AV.one=true) (hok:ZU P t=true) (hp0:QB P t 0=some (0,1)) (hx:x.one=true):Xh P t [(0,x)]=some (.agg [x,z1,z2]):=by
 have h0:(AV.agg [z0,z1,z2]).cells? = some [z0,z1,z2]:=by simp only[AV.cells?]; rw[if_pos hz1]
 simp only[Xh,hz,h0,hok,if_true,fE,dW,Xy,hp0,AV.cells_one hx];simp[putL,Xy]
theorem build_s3 {P:Program} {t:TypeId} {z0 z1 z2 x y u:AV} (hz:Qf P t=some (.agg [z0,z1,z2])) (hz1 : [z0,z1,z2].all AV.one=true) (hok:ZU P t=true) (hp0:QB P t 0=some (0,1)) (hp1:QB P t 1=some (1,1)) (hp2:QB P t 2=some (2,1)) (hx:x.one=true) (hy:y.one=true) (hu:u.one=true):Xh P t [(0,x),(1,y),(2,u)]=some (.agg [x,y,u]):=by
 have h0:(AV.agg [z0,z1,z2]).cells? = some [z0,z1,z2]:=by simp only[AV.cells?]; rw[if_pos hz1]
 simp only[Xh,hz,h0,hok,if_true,fE,dW,Xy,hp0,hp1,hp2,AV.cells_one hx,AV.cells_one hy,AV.cells_one hu];simp[putL,Xy]
theorem build_a1 {P:Program} {t:TypeId} {z0 z1 z2 x y:AV} (hz:Qf P t=some (.agg [z0,z1,z2])) (hz1 : [z0,z1,z2].all AV.one=true) (hok:ZU P t=true) (hp0:QB P t 0=some (0,2)) (hx:x.one=true) (hy:y.one=true):Xh P t [(0,.agg [x,y])]=some (.agg [x,y,z2]):=by
 have h0:(AV.agg [z0,z1,z2]).cells? = some [z0,z1,z2]:=by simp only[AV.cells?]; rw[if_pos hz1]
 have h1:(AV.agg [x,y]).cells? = some [x,y]:=by simp only[AV.cells?]; rw[if_pos (by simp[hx,hy])]
 simp only[Xh,hz,h0,hok,if_true,fE,dW,Xy,hp0,h1];simp[putL,Xy]
theorem JH {P:Program} {ρ:Operand→AV} {o:Oper} {h:AHeap} {f:FuncId} {first cap:Array Operand} (ho:o.op = .makeFunc (.func f) first cap):StepS P ρ o h (.fnm f (first.toList.map ρ) (cap.toList.map ρ)) h:=by
 refine⟨HGrow.refl _,?_⟩;intro φ a w K Q hfr r hops hk;have hrun:(execOp a.eval o).run P w = .ok (.value (.func (.func f) (first.toList.map a.eval).toArray (cap.toList.map a.eval).toArray)) w:=by
  simp only[execOp,ho,Instr.makeFunc];simp;exact⟨by apply Array.ext'; simp,by apply Array.ext'; simp⟩
 have hin:∀ q,q∈first.toList∨q∈cap.toList→VRel φ (ρ q) (a.eval q):=by
  intro q hq;refine hops q ?_;simp only[ho,Op.operands];rcases hq with hq|hq
  exact Array.mem_append_left _ (by simpa using hq);exact Array.mem_append_right _ (by simpa using hq)
 refine wp_of_run hrun (hk φ _ w (Trans.refl _ _ _) r (.fnm _ _ _ _ _ aK ?_ aK ?_));intro j x y hx hy;rw[fB,fC] at hx hy;obtain⟨q,hq,rfl⟩:=hx;obtain⟨q',hq',rfl⟩:=hy;rw[hq] at hq'; cases hq';exact hin q (.inl (fW hq));intro j x y hx hy;rw[fB,fC] at hx hy;obtain⟨q,hq,rfl⟩:=hx;obtain⟨q',hq',rfl⟩:=hy;rw[hq] at hq'; cases hq';exact hin q (.inr (fW hq))
theorem Ev.stepM {P : Program} {ρ : Operand → AV} {o : Oper} {h h' : AHeap} {f : FuncId} {first caps : List AV} {r : AV} {g : Operand} {args : Array Operand} {tys : Array TypeId}
    (ho:o.op = .call {callee:=.value g,args:=args,argTypes:=tys}) (hg : ρ g = .fnm f first caps) (hev:Ev P f (first ++ args.toList.map ρ ++ caps) h r h'):SemStep P ρ o h r h':=by
 have hc:clsOf o.op = .chain:=by rw[ho]; rfl
 unfold SemStep;rw[hc];obtain⟨⟨fn,hf,hn,hb⟩,hgrow,hcalls⟩:=hev;refine⟨hgrow,?_⟩;intro φ a w K Q hfr rr hops hk;have hgv:=hops g aV;rw[hg] at hgv;generalize hgc:a.eval g=cg at hgv
 cases hgv with|fnm _ _ _ fs cs hl hh hl' hh'=>
 have hrun:(execOp a.eval o).run P w = .ok (.enter f ((fs ++ args.toList.map a.eval ++ cs).toArray)) w:=by
  simp only[execOp,ho,resolve,hgc,Deferred.ofValue,Sem.run_bind,Sem.run_pure,Result.andThen_ok,invoke,callFunc,run_program,hf,hn,hb,fY,if_false];simp
 unfold Oper.wp;rw[hrun];refine(hcalls φ w _ hfr rr ?_).mono ?_;refine VRels.append (VRels.append ⟨hl,hh⟩ ⟨by simp,?_⟩) ⟨hl',hh'⟩;intro j x y hx hy;rw[fB,fC] at hx hy;obtain⟨q,hq,rfl⟩:=hx;obtain⟨q',hq',rfl⟩:=hy;rw[hq] at hq'; cases hq';refine hops q ?_;simp[ho,Op.operands,Call.operands];exact .inr (Array.mem_of_getElem? (by simpa using hq));rintro e w' ⟨v,φ',rfl,t,r',hv⟩;exact hk φ' v w' t r' hv
section
variable {P:Program} {n:Nat} {ops:Array Oper} {ex:List Nat} {Q:KF→AHeap→Prop} {k:Nat} {os:List Oper} {K:KF} {h:AHeap} {d:Nat} {ty:TypeId} {pos:String} {after:Array Edge}
theorem KOps.makeMeth {f : FuncId} {x : Operand} {v : AV} [hx : EvK h.globs n K x v] (hk : KOps P n ops TXT Q (k + 1) os ((d, .fnm f [v] []) :: K) h) (hlt : Nat.beq k 1000000 = false := by rfl) :
    KOps P n ops TXT Q k (⟨some d,.makeFunc (.func f) #[x] #[],ty,pos,after,none⟩::os) K h:=by
 have h1:=JH (P:=P) (ρ:=KK h.globs n K) (o:=⟨some d,.makeFunc (.func f) #[x] #[],ty,pos,after,none⟩) (h:=h) rfl;simp only[List.map_cons,List.map_nil,hx.eq] at h1;exact Zv h1 hk hlt
theorem KOps.callM {f : FuncId} {g : Operand} {first caps : List AV} {l : List Operand} {vs : List AV} {tys : Array TypeId} {R : AV → AHeap → Prop} [hg : EvK h.globs n K g (.fnm f first caps)] [hl : EvKs h.globs n K l vs] (hx : ex.contains k = false)
    (hc:ACalls P f (first ++ vs ++ caps) h R) (hk:∀ r h',R r h'→KOps P n ops ex Q (k+1) os ((d,r)::K) h'):KOps P n ops ex Q k (⟨some d,.call {callee:=.value g,args:=dX l,argTypes:=tys},ty,pos,after,none⟩::os) K h:=by
 obtain⟨r,h',hev,hR⟩:=hc;refine QZ (v:=r) (h':=h') ?_ (fun hc=>by rw[hx] at hc; cases hc) (hk r h' hR);refine Ev.stepM (g:=g) (args:=dX l) (tys:=tys) rfl hg.eq ?_;rw[gA,hl.eq];exact hev
def CallsV (P:Program) (v:AV) (vs:List AV) (h:AHeap) (R:AV→AHeap→Prop):Prop:=match v with
  | .fn f caps=>ACalls P f (vs ++ caps) h R
  | .fnm f first caps=>ACalls P f (first ++ vs ++ caps) h R
  | _=>False
theorem KOps.callV {g : Operand} {v : AV} {l : List Operand} {vs : List AV} {tys : Array TypeId} {R : AV → AHeap → Prop} [hg : EvK h.globs n K g v] [hl : EvKs h.globs n K l vs] (hx : ex.contains k = false)
    (hc:CallsV P v vs h R) (hk:∀ r h',R r h'→KOps P n ops ex Q (k+1) os ((d,r)::K) h'):KOps P n ops ex Q k (⟨some d,.call {callee:=.value g,args:=dX l,argTypes:=tys},ty,pos,after,none⟩::os) K h:=by
 cases v <;> first|exact Oo hx hc hk|exact KOps.callM hx hc hk|exact hc.elim
end
section
variable {P:Program} {n:Nat} {ops:Array Oper} {Q:KF→AHeap→Prop} {k:Nat} {os:List Oper} {K:KF} {h:AHeap} {d:Nat} {ty:TypeId} {pos:String} {after:Array Edge}
theorem KOps.eqNilm {t t' : TypeId} {x : Operand} {v : AV} {b : Bool} {p : TypeId × TypeId} [hx : EvK h.globs n K x v] (hm : Xc P t = some p) (hv : v.mapNil = some b) (hk : KOps P n ops TXT Q (k + 1) os ((d, .bool b) :: K) h) (hlt : Nat.beq k 1000000 = false := by rfl) :
    KOps P n ops TXT Q k (⟨some d,.binOp .eql t x (.const (.map none)) t',ty,pos,after,none⟩::os) K h:=
  Zv (Tt (op:=.eql) rfl (.inl rfl) hm (by rw[hx.eq]; exact hv) rfl) hk hlt
theorem KOps.neqNilm {t t' : TypeId} {x : Operand} {v : AV} {b : Bool} {p : TypeId × TypeId} [hx : EvK h.globs n K x v] (hm : Xc P t = some p) (hv : v.mapNil = some b) (hk : KOps P n ops TXT Q (k + 1) os ((d, .bool !b) :: K) h) (hlt : Nat.beq k 1000000 = false := by rfl) :
    KOps P n ops TXT Q k (⟨some d,.binOp .neq t x (.const (.map none)) t',ty,pos,after,none⟩::os) K h:=
  Zv (Tt (op:=.neq) rfl (.inr rfl) hm (by rw[hx.eq]; exact hv) rfl) hk hlt
end
section
variable {P:Program} {n:Nat} {ops:Array Oper} {ex:List Nat} {Q:KF→AHeap→Prop} {k:Nat} {os:List Oper} {K:KF} {h:AHeap} {d:Nat} {ty:TypeId} {pos:String} {after:Array Edge}
theorem QI {x ix : Operand} {p v : AV} {t : TypeId} {m s c : Nat} {kd : IntKind} {i : Int} {j : Nat} [hx : EvK h.globs n K x p] [hi : EvK h.globs n K ix (.int kd i)] [ht : ArT P t m] (ha : AddrOf p v s c) (hj : i = (j : Int)) (hlt : j < m)
    (hk:∀ q,AddrOf q v s (c+j)→KOps P n ops ex Q (k+1) os ((d,q)::K) h):KOps P n ops ex Q k (⟨some d,.indexAddr t x ix,ty,pos,after,none⟩::os) K h:=by
 subst hj;obtain⟨b,o,h1,rfl⟩:=ha;obtain⟨e,he,hs⟩:=ht.arr;refine O9 rfl (v:=.ptr b (o+c+j)) ?_ (hk _ ⟨b,o,h1,by rw[Nat.add_assoc]⟩);simp only[apure,hx.eq,hi.eq,Xz,he,hs,fE,dW];rw[if_pos ⟨by omega,by omega⟩];simp
theorem KOps.buildS1 {t : TypeId} {x0 : Operand} {v0 : AV} [hx0 : EvK h.globs n K x0 v0] {z0 z1 z2 : AV} (hz : Qf P t = some (.agg [z0, z1, z2])) (hz1 : [z0, z1, z2].all AV.one = true) (hok : ZU P t = true) (hp0 : QB P t 0 = some (0, 1)) (hov0 : v0.one = true) (hk : KOps P n ops ex Q (k + 1) os ((d, .agg [v0, z1, z2]) :: K) h) :
    KOps P n ops ex Q k (⟨some d,.build t (dX [(0,x0)]),ty,pos,after,none⟩::os) K h:=
  KOps.build (vs:=[v0]) (build_s1 hz hz1 hok hp0 hov0) hk
theorem KOps.buildS3 {t : TypeId} {x0 x1 x2 : Operand} {v0 v1 v2 : AV} [hx0 : EvK h.globs n K x0 v0] [hx1 : EvK h.globs n K x1 v1] [hx2 : EvK h.globs n K x2 v2] {z0 z1 z2 : AV} (hz : Qf P t = some (.agg [z0, z1, z2])) (hz1 : [z0, z1, z2].all AV.one = true) (hok : ZU P t = true) (hp0 : QB P t 0 = some (0, 1)) (hp1 : QB P t 1 = some (1, 1)) (hp2 : QB P t 2 = some (2, 1)) (hov0 : v0.one = true) (hov1 : v1.one = true) (hov2 : v2.one = true) (hk : KOps P n ops ex Q (k + 1) os ((d, .agg [v0, v1, v2]) :: K) h) :
    KOps P n ops ex Q k (⟨some d,.build t (dX [(0,x0),(1,x1),(2,x2)]),ty,pos,after,none⟩::os) K h:=
  KOps.build (vs:=[v0,v1,v2]) (build_s3 hz hz1 hok hp0 hp1 hp2 hov0 hov1 hov2) hk
theorem KOps.buildA1 {t : TypeId} {x0 : Operand} {v00 v01 : AV} [hx0 : EvK h.globs n K x0 (.agg [v00, v01])] {z0 z1 z2 : AV} (hz : Qf P t = some (.agg [z0, z1, z2])) (hz1 : [z0, z1, z2].all AV.one = true) (hok : ZU P t = true) (hp0 : QB P t 0 = some (0, 2)) (hov00 : v00.one = true) (hov01 : v01.one = true) (hk : KOps P n ops ex Q (k + 1) os ((d, .agg [v00, v01, z2]) :: K) h) :
    KOps P n ops ex Q k (⟨some d,.build t (dX [(0,x0)]),ty,pos,after,none⟩::os) K h:=
  KOps.build (vs:=[.agg [v00,v01]]) (build_a1 hz hz1 hok hp0 hov00 hov01) hk
end
end Go.Am
namespace Go.Am
open Go.RowKit
abbrev mwalkO (v:AV) (bm n:Nat) (D:List Nat):Obj:=⟨v,0,Thing.enc (.mwalk bm n D),false⟩
theorem Mu.mwalk {lo:Nat} {h:AHeap} {F:Option Nat} {v:AV} {bm n:Nat} {D:List Nat} (hv:IsIt v) (hm:Mu lo h F (mwalkO v bm n D)):∃ b G f,F=some G∧lo≤b∧v = .it b∧h.get b=some (.obj G (.mwalk bm n D))∧h.fam G=some f:=by
 obtain⟨b0,rfl⟩:=hv
 cases F with
 | none=>cases hm.1
 | some G=>
  rcases hm with ⟨b,off,p,cs,f,_,hw,_⟩|⟨b,x,f,h1,h2,h3,h4,h5,h6⟩
  rcases hw with ⟨_,_,hw,_⟩|⟨_,hw⟩ <;> cases hw
  ·cases x with
   | map es'=>cases h2
   | dmap es'=>cases h2
   | walk _ _=>simp[Thing.enc] at h6
   | gone=>simp[Thing.enc] at h6
   | mwalk bm' n' D'=>
    simp only[Thing.at,AV.it.injEq] at h2;subst h2;simp only[Thing.enc,List.cons.injEq,AV.mp.injEq,AV.int.injEq,AV.tup.injEq,and_true,true_and] at h6;obtain⟨e1,e2,e3⟩:=h6;have e3:D'=D:=by
     refine(List.map_inj_right (f:=fun i:Nat=>AV.int .i64 (i:Int)) ?_).1 ?_;intro x y hxy; simp only[AV.int.injEq,true_and] at hxy; omega
     first|exact e3|exact e3.symm
    have e2:n'=n:=by omega
    subst e1 e2 e3;exact⟨b0,G,f,rfl,h1,rfl,h4,h5⟩
end Go.Am
namespace Go.Am.R
open Go.Am
def isConv : Op → Bool
  | .convert _ _ _=>true
  | _=>false
def clsI (ex:List Nat) (i:Nat) (op:Op):Cls:=if ex.contains (i+1000)=true then .chain else if (ex.contains (i+2000) && isConv op)=true then .read else clsOf op
def SemI (P:Program) (ex:List Nat) (i:Nat) (ρ:Operand→AV) (o:Oper) (h:AHeap) (v:AV) (h':AHeap):Prop:=
  match clsI ex i o.op with
  | .pure=>apure P ρ o.op=some v∧h'=h
  | .read=>ReadS P ρ o h v∧h'=h
  | .allo=>∃ mk cs,aallo P ρ o.op=some (mk,cs)∧v=mk.val h.next∧h'=h.alloc cs
  | .chain=>StepS P ρ o h v h'
theorem SemI.of {P:Program} {ex:List Nat} {i:Nat} {ρ:Operand→AV} {o:Oper} {h h':AHeap} {v:AV} (hs:SemStep P ρ o h v h'):SemI P ex i ρ o h v h':=by
 unfold SemI clsI;by_cases hm:ex.contains (i+1000)=true;rw[if_pos hm]; exact hs.stepS;rw[if_neg hm];by_cases h2:(ex.contains (i+2000) && isConv o.op)=true;rw[if_pos h2];rw[dY] at h2;have hp:clsOf o.op = .pure:=by
  have h3:=h2.2;revert h3
  cases o.op <;> intro h3 <;> first|rfl|cases h3
 unfold SemStep at hs;rw[hp] at hs;obtain⟨ha,rfl⟩:=hs;exact⟨fun φ w ev r hr=>apure_sound hr ha w,rfl⟩;rw[if_neg h2]; exact hs
theorem SemI.mark {P:Program} {ex:List Nat} {i:Nat} {ρ:Operand→AV} {o:Oper} {h h':AHeap} {v:AV} (hm:ex.contains (i+1000)=true) (hs:StepS P ρ o h v h'):SemI P ex i ρ o h v h':=by
 unfold SemI clsI;rw[if_pos hm]; exact hs
theorem SemI.stepS {P:Program} {ex:List Nat} {i:Nat} {ρ:Operand→AV} {o:Oper} {h h':AHeap} {v:AV} (hs:SemI P ex i ρ o h v h'):StepS P ρ o h v h':=by
 unfold SemI clsI at hs;by_cases hm:ex.contains (i+1000)=true;rw[if_pos hm] at hs; exact hs;rw[if_neg hm] at hs;by_cases h2:(ex.contains (i+2000) && isConv o.op)=true;rw[if_pos h2] at hs;obtain⟨h3,rfl⟩:=hs;exact h3.stepS;rw[if_neg h2] at hs; exact SemStep.stepS hs
structure RgOk (sz:Nat) (ops:Array Oper) (ex:List Nat) (st:List (Nat × Nat)):Prop where
  ntx:ex≠TXT
  back:∀ (i:Nat) (o:Oper) e,ops[i]? = some o→e∈o.after→dS .any e=true→e.on<i
  dst:∀ (i:Nat) (o:Oper) d,ops[i]? = some o→o.dst=some d→d<sz
  inj:∀ (i j:Nat) (oi oj:Oper) d,ops[i]? = some oi→ops[j]? = some oj→oi.dst=some d→oj.dst=some d→i=j
  opnd:∀ (i j:Nat) (oi oj:Oper) t,ops[i]? = some oi→ops[j]? = some oj→.tmp t∈oi.op.operands→oj.dst=some t→(j<i∧Dep ops i j)∨(i<j∧Dep ops j i)
  guard:∀ (i:Nat) (o:Oper) g want,ops[i]? = some o→o.guard=some (g,want)→Dep ops i g
  chain:∀ (i j:Nat) (oi oj:Oper),ops[i]? = some oi→ops[j]? = some oj→clsI ex i oi.op = .chain→clsI ex j oj.op = .chain→j<i→Dep ops i j
  read:∀ (c r:Nat) (oc or:Oper),ops[c]? = some oc→ops[r]? = some or→clsI ex c oc.op = .chain→clsI ex r or.op = .read→ex.contains c=true∨Dep ops c r∨Dep ops r c∨(r<c∧(c,r)∈st)
  allo:∀ (c j:Nat) (oc oj:Oper),ops[c]? = some oc→ops[j]? = some oj→clsI ex c oc.op = .chain→clsI ex j oj.op = .allo→j<c→ex.contains c=true∨Dep ops c j
def TS (P:Program) (ops:Array Oper) (ex:List Nat) (i:Nat) (o:Oper) (fr:List AV) (h:AHeap) (v:AV) (fr':List AV) (h':AHeap):Prop:=
  fr'=setF fr o.dst v∧
  ((∃ j want b, o.guard = some (j, want) ∧ guardA ops fr j = some b ∧ b ≠ some want ∧ v = .tup [] ∧ h' = h) ∨
   ((o.guard=none∨∃ j want,o.guard=some (j,want)∧guardA ops fr j=some (some want))∧SemI P ex i (evalA h.globs fr) o h v h'∧(ex.contains i=true→WFH h→HExt h h')))
section drawn
variable {D:List Deferred} {P:Program} {ops:Array Oper} {ex:List Nat} {st:List (Nat × Nat)} {sz:Nat} {vs:Nat→AV} {frs:Nat→List AV} {hs:Nat→AHeap}
theorem TS.grow {i:Nat} {o:Oper} {fr fr':List AV} {h h':AHeap} {v:AV} (t:TS P ops ex i o fr h v fr' h'):HGrow h h':=by
 rcases t.2 with ⟨_,_,_,_,_,_,_,rfl⟩|⟨_,hs,_⟩
 exact HGrow.refl _;exact hs.stepS.1
theorem text_states (hts : ∀ i o, i < ops.size → ops[i]? = some o → TS P ops ex i o (frs i) (hs i) (vs i) (frs (i + 1)) (hs (i + 1)))
    {φ0:Emb} {a0:Act} {w0:World} (hfr:Fresh φ0 (hs 0) (hs ops.size)) (s0:Sim D φ0 (frs 0) (hs 0) a0 w0) :
    (∀ i,i≤ops.size→HGrow (hs 0) (hs i))∧(∀ i,i≤ops.size→HGrow (hs i) (hs ops.size))∧∀ i,i≤ops.size→∃ φ a w,Sim D φ (frs i) (hs i) a w∧Fresh φ (hs i) (hs ops.size):=by
 have hg:∀ i,i<ops.size→HGrow (hs i) (hs (i+1)):=fun i hi=>(hts i _ hi (dU hi)).grow
 have g0:∀ i,i≤ops.size→HGrow (hs 0) (hs i):=by
  intro i
  induction i with
  | zero=>intro _; exact HGrow.refl _
  | succ i ih=>intro hi; exact(ih (by omega)).trans (hg i (by omega))
 have gn:∀ d i,i+d=ops.size→HGrow (hs i) (hs ops.size):=by
  intro d
  induction d with
  | zero=>intro i hi; simp at hi; subst hi; exact HGrow.refl _
  | succ d ih=>intro i hi; exact(hg i (by omega)).trans (ih (i+1) (by omega))
 have gn':∀ i,i≤ops.size→HGrow (hs i) (hs ops.size):=fun i hi=>gn (ops.size - i) i (by omega)
 refine⟨g0,gn',?_⟩;intro i
 induction i with
 | zero=>intro _; exact⟨φ0,a0,w0,s0,hfr⟩
 | succ i ih=>
  intro hi;obtain⟨φ,a,w,s,hf⟩:=ih (by omega);have ho:=dU (xs:=ops) (i:=i) (by omega);have t:=hts i _ (by omega) ho;obtain⟨hfr',t2⟩:=t;rcases t2 with ⟨j,want,b,_,_,_,hv,hh⟩|⟨_,hst,_⟩
  rw[hfr',hh,hv];exact⟨φ,a.put ops[i].dst undef,w,⟨s.heap,s.fr.put _ (VRel.undef φ)⟩,hf⟩;obtain⟨g,hrun⟩:=hst.stepS;have:=hrun φ a w (fun a' w'=>∃ φ',Trans φ (hs i) w φ' (hs (i+1)) w'∧Sim D φ' (frs (i+1)) (hs (i+1)) a' w') (fun _ _ _=>False) (hf.left (gn' (i+1) (by omega))) s.heap (fun x _=>evalA_rel s.heap s.fr x) (by
   intro φ' c w' t' r' hv';rw[hfr'];exact⟨φ',t',r',(s.fr.mono t'.le).put _ hv'⟩)
  obtain⟨a',w',φ',t',s'⟩:=wp_some this;exact⟨φ',a',w',s',hf.right g t'⟩
structure Inv (D:List Deferred) (P:Program) (ops:Array Oper) (ex:List Nat) (sz:Nat) (vs:Nat→AV) (frs:Nat→List AV) (hs:Nat→AHeap) (φ0:Emb) (w0:World) (L:Nat→Bool) (φ:Emb) (a:Act) (w:World):Prop where
  closed:∀ i (o:Oper) e,ops[i]? = some o→L i=true→e∈o.after→dS .any e=true→L e.on=true
  lt:∀ i,L i=true→i<ops.size
  defers:a.defers=D
  size:a.tmps.size=sz
  new:∀ i (o:Oper) d v,ops[i]? = some o→L i=true→o.dst=some d→a.tmps[d]? = some v→VRel φ (vs i) v
  old:∀ (t:Nat) (x:AV) (v:Value),(∀ i (o:Oper),ops[i]? = some o→L i=true→o.dst≠some t)→(frs 0)[t]? = some x→a.tmps[t]? = some v→VRel φ x v
  free:∀ i,i<ops.size→L i=false→∀ b,(hs i).next≤b→b<(hs (i+1)).next→φ b=none
  defd:∀ i,L i=true→∀ b,(hs i).next≤b→b<(hs (i+1)).next→∃ p,φ b=some p
  glob:∀ g∈(hs 0).globs,∃ z,φ g=some (g,0,z)
  lies:∀ b k i z,φ b=some (k,i,z)→k<w.heap.size
  heap:∀ i,i≤ops.size→(∀ c (o:Oper),ops[c]? = some o→clsI ex c o.op = .chain→hs (c+1)≠hs c→((c<i∧L c=false)∨(i≤c∧L c=true))→ex.contains c=true)→HRel φ (hs i) w
  own:∀ j (o:Oper) cs,ops[j]? = some o→L j=true→clsI ex j o.op = .allo→hs (j+1)=(hs j).alloc cs→(∀ c (o:Oper),ops[c]? = some o→clsI ex c o.op = .chain→L c=true→c<j)→Own φ w (hs j).next cs
  le : φ0.le φ
  fresh:∀ b p,φ0 b=none→φ b=some p→(hs 0).next≤b∧b<(hs ops.size).next
  img:∀ b k i z,φ0 b=none→φ b=some (k,i,z)→w0.heap.size≤k∨∃ b0 i0 z0 F p cs,φ0 b0=some (k,i0,z0)∧(hs 0).get b0=some (.cells (some F) p cs)
  frame:∀ k,k<w0.heap.size→¬ (hs 0).mut φ0 k→w.heap[k]? = w0.heap[k]?
  os:w.os=w0.os
  tape:w.tape=w0.tape
  output:w.output=w0.output
  wsize:w0.heap.size≤w.heap.size
theorem dep_lt (hok:RgOk sz ops ex st) {i j:Nat} (h:Dep ops i j):j<i:=by
 induction h with
 | edge i o e ho he hb=>exact hok.back i o e ho he hb
 | trans i j k _ _ h1 h2=>omega
structure Txt (P:Program) (ops:Array Oper) (ex:List Nat) (sz:Nat) (vs:Nat→AV) (frs:Nat→List AV) (hs:Nat→AHeap):Prop where
  ts:∀ i o,i<ops.size→ops[i]? = some o→TS P ops ex i o (frs i) (hs i) (vs i) (frs (i+1)) (hs (i+1))
  wf:∀ i,i≤ops.size→WFH (hs i)
  glob:∀ i,i≤ops.size→(hs i).globs=(hs 0).globs
  size:(frs 0).length=sz
theorem Txt.len (T:Txt P ops ex sz vs frs hs):∀ i,i≤ops.size→(frs i).length=sz:=by
 intro i
 induction i with
 | zero=>intro _; exact T.size
 | succ i ih=>
  intro hi;have t:=T.ts i _ (by omega) (dU (by omega));rw[t.1];unfold setF;split;rw[gY]; exact ih (by omega);exact ih (by omega)
theorem Txt.nextLe (T:Txt P ops ex sz vs frs hs):∀ i j,i≤j→j≤ops.size→HGrow (hs i) (hs j):=by
 intro i j hij hj;obtain⟨d,rfl⟩:∃ d,j=i+d:=⟨j - i,by omega⟩;clear hij
 induction d with
 | zero=>exact HGrow.refl _
 | succ d ih=>exact(ih (by omega)).trans (T.ts (i+d) _ (by omega) (dU (by omega))).grow
theorem Txt.slot (T : Txt P ops ex sz vs frs hs) (_hok : RgOk sz ops ex st) : ∀ i, i ≤ ops.size → ∀ t, t < sz →
    ((∃ j o,j<i∧ops[j]? = some o∧o.dst=some t∧(frs i)[t]? = some (vs j))∨((∀ j (o:Oper),j<i→ops[j]? = some o→o.dst≠some t)∧(frs i)[t]? = (frs 0)[t]?)):=by
 intro i
 induction i with
 | zero=>intro _ t _; exact .inr ⟨fun j o hj=>by omega,rfl⟩
 | succ i ih=>
  intro hi t ht;have ho:=dU (xs:=ops) (i:=i) (by omega);have hts:=T.ts i _ (by omega) ho;by_cases hd:ops[i].dst=some t;refine .inl ⟨i,ops[i],by omega,ho,hd,?_⟩;rw[hts.1];simp only[setF,hd];rw[fQ,if_pos rfl,if_pos (by rw[T.len i (by omega)]; exact ht)];have hsame:(frs (i+1))[t]? = (frs i)[t]?:=by
   rw[hts.1];unfold setF;split;rename_i d hd';rw[List.getElem?_set_ne];rintro rfl;exact hd hd';rfl
  rcases ih (by omega) t ht with ⟨j,o,hj,hoj,hdj,hv⟩|⟨hno,hv⟩
  exact .inl ⟨j,o,by omega,hoj,hdj,hsame.trans hv⟩;refine .inr ⟨?_,hsame.trans hv⟩;intro j o hj hoj;by_cases hji:j=i;subst hji;rw[ho] at hoj; cases hoj; exact hd;exact hno j o (by omega) hoj
theorem Inv.slot {φ0 φ : Emb} {w0 w : World} {a : Act} {L : Nat → Bool} (I : Inv D P ops ex sz vs frs hs φ0 w0 L φ a w) (T : Txt P ops ex sz vs frs hs) (hok : RgOk sz ops ex st) {i : Nat} {o : Oper} (hi : ops[i]? = some o) (hun : L i = false)
    (hr:∀ e∈o.after,dS .any e=true→L e.on=true) (t:Nat) (hdep:∀ j oj,ops[j]? = some oj→oj.dst=some t→(j<i∧Dep ops i j)∨(i<j∧Dep ops j i)) :
    VRel φ ((frs i).getD t .bot) (a.tmps.getD t undef):=by
 have hin:i<ops.size:=(dO.1 hi).1;by_cases ht:t<sz;have hta:t<a.tmps.size:=by rw[I.size]; exact ht
 rw[dT,dR,dU hta];simp only[Option.getD_some];rcases T.slot hok i (by omega) t ht with ⟨j,oj,hj,hoj,hdj,hv⟩|⟨hno,hv⟩
 rw[hv];rcases hdep j oj hoj hdj with ⟨_,hd⟩|⟨hlt,_⟩
 exact I.new j oj t _ hoj (hd.ready I.closed hi hr) hdj (dU hta);omega;rw[hv];have h0:t<(frs 0).length:=by rw[T.size]; exact ht
 rw[dQ h0];refine I.old t _ _ ?_ (dQ h0) (dU hta);intro j oj hoj hL hd;rcases hdep j oj hoj hd with ⟨hlt,_⟩|⟨_,hdp⟩
 exact hno j oj hlt hoj hd;have:=hdp.closed I.closed hL;rw[hun] at this; cases this;rw[dT,fF (by rw[T.len i (by omega)]; omega)];exact .bot _
theorem Inv.opnd {φ0 φ : Emb} {w0 w : World} {a : Act} {L : Nat → Bool} (I : Inv D P ops ex sz vs frs hs φ0 w0 L φ a w) (T : Txt P ops ex sz vs frs hs) (hok : RgOk sz ops ex st) {i : Nat} {o : Oper} (hi : ops[i]? = some o) (hun : L i = false)
    (hr:∀ e∈o.after,dS .any e=true→L e.on=true):∀ x∈o.op.operands,VRel φ (evalA (hs i).globs (frs i) x) (a.eval x):=by
 intro x hx
 cases x with
 | tmp t=>exact I.slot T hok hi hun hr t fun j oj hj hd=>hok.opnd i j o oj t hi hj hx hd
 | const v=>exact AV.of_rel φ 4 v
 | global g=>
  simp only[evalA,Act.eval];split;rename_i hg;rw[T.glob i (by have:=(dO.1 hi).1; omega)] at hg;obtain⟨z,hz⟩:=I.glob g (by simpa using hg);exact .ptr g 0 g 0 z hz;exact .bot _
 | func f=>exact .fn f [] [] rfl (by simp)
theorem Inv.wanted {φ0 φ : Emb} {w0 w : World} {a : Act} {L : Nat → Bool} (I : Inv D P ops ex sz vs frs hs φ0 w0 L φ a w) (T : Txt P ops ex sz vs frs hs) (hok : RgOk sz ops ex st) {i : Nat} {o : Oper} (hi : ops[i]? = some o) (hun : L i = false)
    (hr:∀ e∈o.after,dS .any e=true→L e.on=true) {j:Nat} {want:Bool} {b:Option Bool} (hg:o.guard=some (j,want)) (hb:guardA ops (frs i) j=some b):yielded ops a.tmps j=b:=by
 have hin:i<ops.size:=(dO.1 hi).1;have hdep:=hok.guard i o j want hi hg;unfold guardA at hb;split at hb
 ·rename_i d hd;obtain⟨oj,hoj,hdj⟩:∃ oj,ops[j]? = some oj∧oj.dst=some d:=by
   cases hoj:ops[j]? with
   | none=>rw[hoj] at hd; cases hd
   | some oj=>rw[hoj] at hd; exact⟨oj,rfl,hd⟩
  have:=I.slot T hok hi hun hr d fun j' oj' hj' hd'=>by
   have:=hok.inj j' j oj' oj d hj' hoj hd' hdj;subst this;exact .inl ⟨dep_lt hok hdep,hdep⟩
  have hlt:d<a.tmps.size:=by
   rw[I.size];exact hok.dst j oj d hoj hdj
  split at hb;rename_i b' hb';cases hb;exact(yielded_of hd this).1 _ hb' hlt;rename_i l hb';cases hb;exact(yielded_of hd this).2 _ hb';cases hb
 cases hb
end drawn
section drawn
variable {D:List Deferred} {P:Program} {ops:Array Oper} {ex:List Nat} {st:List (Nat × Nat)} {sz:Nat} {vs:Nat→AV} {frs:Nat→List AV} {hs:Nat→AHeap}
def Quiet (ops:Array Oper) (ex:List Nat) (hs:Nat→AHeap) (k:Nat):Prop:=∀ (o:Oper),ops[k]? = some o→clsI ex k o.op = .chain→hs (k+1)≠hs k→ex.contains k=true
theorem Txt.ext (T:Txt P ops ex sz vs frs hs) {k:Nat} (hk:k<ops.size) (q:Quiet ops ex hs k):HExt (hs k) (hs (k+1)):=by
 have ho:=dU (xs:=ops) (i:=k) hk;by_cases hsame:hs (k+1)=hs k;rw[hsame]; exact HExt.refl _
 ·rcases(T.ts k _ hk ho).2 with ⟨_,_,_,_,_,_,_,h⟩|⟨_,hst,hex⟩
  exact absurd h hsame
  ·cases hc:clsI ex k ops[k].op with
   | pure=>unfold SemI at hst; rw[hc] at hst; exact absurd hst.2 hsame
   | read=>unfold SemI at hst; rw[hc] at hst; exact absurd hst.2 hsame
   | allo=>
    unfold SemI at hst; rw[hc] at hst;obtain⟨mk,cs,_,_,h⟩:=hst;rw[h];exact HExt.alloc' (T.wf k (by omega)) cs
   | chain=>exact hex (q _ ho hc hsame) (T.wf k (by omega))
theorem Txt.extRange (T:Txt P ops ex sz vs frs hs) {i j:Nat} (hij:i≤j) (hj:j≤ops.size) (q:∀ k,i≤k→k<j→Quiet ops ex hs k):HExt (hs i) (hs j):=by
 obtain⟨d,rfl⟩:∃ d,j=i+d:=⟨j - i,by omega⟩;clear hij
 induction d with
 | zero=>exact HExt.refl _
 | succ d ih=>exact(ih (by omega) (fun k h1 h2=>q k h1 (by omega))).trans (T.ext (k:=i+d) (by omega) (q (i+d) (by omega) (by omega)))
theorem Txt.down (T:Txt P ops ex sz vs frs hs) {φ:Emb} {w:World} {i j:Nat} (hij:i≤j) (hj:j≤ops.size) (q:∀ k,i≤k→k<j→Quiet ops ex hs k) (r:HRel φ (hs j) w):HRel φ (hs i) w:=
  r.down (T.extRange hij hj q) (T.nextLe i j hij hj) (T.wf i (by omega))
theorem Txt.up (T : Txt P ops ex sz vs frs hs) {φ : Emb} {w : World} {i j : Nat} (hij : i ≤ j) (hj : j ≤ ops.size) (q : ∀ k, i ≤ k → k < j → Quiet ops ex hs k)
    (hnew:∀ k (o:Oper),i≤k→k<j→ops[k]? = some o→(∀ b,(hs k).next≤b→b<(hs (k+1)).next→φ b=none)∨hs (k+1)=hs k∨∃ cs,hs (k+1)=(hs k).alloc cs∧Own φ w (hs k).next cs) (r:HRel φ (hs i) w):HRel φ (hs j) w:=by
 obtain⟨d,rfl⟩:∃ d,j=i+d:=⟨j - i,by omega⟩;clear hij
 induction d with
 | zero=>exact r
 | succ d ih=>
  have r':=ih (by omega) (fun k h1 h2=>q k h1 (by omega)) (fun k o h1 h2 ho=>hnew k o h1 (by omega) ho);have ho:=dU (xs:=ops) (i:=i+d) (by omega);rcases hnew (i+d) _ (by omega) (by omega) ho with h|h|⟨cs,h,own⟩
  exact r'.up (T.ext (k:=i+d) (by omega) (q (i+d) (by omega) (by omega))) (T.nextLe (i+d) (i+d+1) (by omega) (by omega)) (T.wf (i+d+1) (by omega)) h;show HRel φ (hs (i+d+1)) w;rw[h]; exact r';show HRel φ (hs (i+d+1)) w;rw[h]; exact r'.add own
theorem Inv.frameStep {φ0 φ φ' : Emb} {w0 w : World} {a : Act} {L : Nat → Bool} (I : Inv D P ops ex sz vs frs hs φ0 w0 L φ a w) (hok : RgOk sz ops ex st) {i : Nat} {o : Oper} (hi : ops[i]? = some o)
    (hr:∀ e∈o.after,dS .any e=true→L e.on=true) (hle : φ.le φ') {c:Value} (hc:VRel φ' (vs i) c) {L':Nat→Bool} (hL:∀ k,L' k=(decide (k=i) || L k)) :
    (∀ k (o:Oper) e,ops[k]? = some o→L' k=true→e∈o.after→dS .any e=true→L' e.on=true)∧(∀ k,L' k=true→k<ops.size)∧(a.put o.dst c).defers=D∧(a.put o.dst c).tmps.size=sz∧
    (∀ k (o':Oper) d v,ops[k]? = some o'→L' k=true→o'.dst=some d→(a.put o.dst c).tmps[d]? = some v→VRel φ' (vs k) v)∧
    (∀ (t:Nat) (x:AV) (v:Value),(∀ k (o':Oper),ops[k]? = some o'→L' k=true→o'.dst≠some t)→(frs 0)[t]? = some x→(a.put o.dst c).tmps[t]? = some v→VRel φ' x v):=by
 have hput:∀ t v,(a.put o.dst c).tmps[t]? = some v→(o.dst=some t∧v=c)∨(o.dst≠some t∧a.tmps[t]? = some v):=by
  intro t v hv;unfold Act.put at hv;split at hv;rename_i d hd;simp only[Array.getElem?_setIfInBounds] at hv;by_cases hdt:d=t;subst hdt;simp only[if_true] at hv;split at hv
  cases hv; exact .inl ⟨hd,rfl⟩
  cases hv;rw[if_neg hdt] at hv;exact .inr ⟨by rw[hd]; exact fun h=>hdt (by cases h; rfl),hv⟩;rename_i hd;exact .inr ⟨by rw[hd]; exact fun h=>(by cases h),hv⟩
 refine⟨?_,?_,?_,?_,?_,?_⟩;intro k o' e ho' hk he hb;rw[hL] at hk⊢;simp only[dP,decide_eq_true_eq] at hk⊢;rcases hk with rfl|hk
 rw[hi] at ho'; cases ho'; exact .inr (hr e he hb);exact .inr (I.closed k o' e ho' hk he hb);intro k hk;rw[hL] at hk;simp only[dP,decide_eq_true_eq] at hk;rcases hk with rfl|hk
 exact(dO.1 hi).1;exact I.lt k hk;unfold Act.put; split <;> exact I.defers;unfold Act.put; split;simpa using I.size;exact I.size;intro k o' d v ho' hk hd hv;rw[hL] at hk;simp only[dP,decide_eq_true_eq] at hk;rcases hput d v hv with ⟨hdi,rfl⟩|⟨hdi,hv'⟩
 have:=hok.inj k i o' o d ho' hi hd hdi;subst this;exact hc;rcases hk with rfl|hk
 rw[hi] at ho'; cases ho'; exact absurd hd hdi;exact(I.new k o' d v ho' hk hd hv').mono hle;intro t x v hno hx hv;rcases hput t v hv with ⟨hdi,rfl⟩|⟨hdi,hv'⟩
 exact absurd hdi (hno i o hi (by rw[hL]; simp));exact(I.old t x v (fun k o' ho' hk=>hno k o' ho' (by rw[hL]; simp[hk])) hx hv').mono hle
theorem ranges_apart (T:Txt P ops ex sz vs frs hs) {i j b:Nat} (hi:i<ops.size) (hj:j<ops.size) (h1:(hs i).next≤b) (h2:b<(hs (i+1)).next) (h3:(hs j).next≤b) (h4:b<(hs (j+1)).next):i=j:=by
 rcases gO i j with h|h|h
 have:=(T.nextLe (i+1) j (by omega) (by omega)).next; omega;exact h;have:=(T.nextLe (j+1) i (by omega) (by omega)).next; omega
theorem Inv.still {φ0 φ : Emb} {w0 w : World} {a : Act} {L : Nat → Bool} (I : Inv D P ops ex sz vs frs hs φ0 w0 L φ a w) (_T : Txt P ops ex sz vs frs hs) (hok : RgOk sz ops ex st) {i : Nat} {o : Oper} (hi : ops[i]? = some o)
    (hr:∀ e∈o.after,dS .any e=true→L e.on=true) (hsame:hs (i+1)=hs i) {c:Value} (hc:VRel φ (vs i) c) {L':Nat→Bool} (hL:∀ k,L' k=(decide (k=i) || L k)) :
    Inv D P ops ex sz vs frs hs φ0 w0 L' φ (a.put o.dst c) w:=by
 obtain⟨f1,f2,f3,f4,f5,f6⟩:=I.frameStep hok hi hr (Emb.le_refl φ) hc hL;have hmono:∀ k,L k=true→L' k=true:=fun k hk=>by rw[hL]; simp[hk]
 refine⟨f1,f2,f3,f4,f5,f6,?_,?_,I.glob,I.lies,?_,?_,I.le,I.fresh,I.img,I.frame,I.os,I.tape,I.output,I.wsize⟩;intro k hk hLk b h1 h2;rw[hL] at hLk;simp only[fH] at hLk;exact I.free k hk hLk.2 b h1 h2;intro k hLk b h1 h2;rw[hL] at hLk;simp only[dP,decide_eq_true_eq] at hLk;rcases hLk with rfl|hLk
 rw[hsame] at h2; omega;exact I.defd k hLk b h1 h2;intro k hk hcomp;refine I.heap k hk ?_;intro c' oc hoc hcl hne hside;refine hcomp c' oc hoc hcl hne ?_;have hci:c'≠i:=fun h=>hne (by rw[h]; exact hsame)
 rcases hside with ⟨h1,h2⟩|⟨h1,h2⟩
 exact .inl ⟨h1,by rw[hL]; simp[hci,h2]⟩;exact .inr ⟨h1,hmono c' h2⟩;intro j oj cs hoj hLj hcl hal hall;rw[hL] at hLj;simp only[dP,decide_eq_true_eq] at hLj;rcases hLj with rfl|hLj
 have:=congrArg AHeap.next hal;rw[hsame,AHeap.next_alloc] at this;omega;exact I.own j oj cs hoj hLj hcl hal (fun c' oc hoc hcc hLc=>hall c' oc hoc hcc (hmono c' hLc))
theorem Inv.allo {φ0 φ : Emb} {w0 w : World} {a : Act} {L : Nat → Bool} (I : Inv D P ops ex sz vs frs hs φ0 w0 L φ a w) (T : Txt P ops ex sz vs frs hs) (hok : RgOk sz ops ex st) {i : Nat} {o : Oper} (hi : ops[i]? = some o) (hun : L i = false)
    (hcls:clsI ex i o.op = .allo) (hr:∀ e∈o.after,dS .any e=true→L e.on=true) {cs:List AV} (hal:hs (i+1)=(hs i).alloc cs) {c:Array Value} {e:TypeId} (hlen:cs.length≤c.size) (hcells:CellsAt φ cs c 0)
    {v:Value} (hv:VRel (φ.upd (hs i).next (w.heap.size,0,c.size)) (vs i) v) {L':Nat→Bool} (hL:∀ k,L' k=(decide (k=i) || L k)) :
    Inv D P ops ex sz vs frs hs φ0 w0 L' (φ.upd (hs i).next (w.heap.size,0,c.size)) (a.put o.dst v) (w.alloc (.cells c e)):=by
 have hin:i<ops.size:=(dO.1 hi).1;have hnx:(hs (i+1)).next=(hs i).next+1:=by rw[hal,AHeap.next_alloc]
 have hφ : φ (hs i).next=none:=I.free i hin hun _ (fA _) (by omega);have hle:=Emb.le_upd (φ:=φ) (w.heap.size,0,c.size) hφ;obtain⟨f1,f2,f3,f4,f5,f6⟩:=I.frameStep hok hi hr hle hv hL;have hmono:∀ k,L k=true→L' k=true:=fun k hk=>by rw[hL]; simp[hk]
 have hold:∀ k,k<w.heap.size→(w.alloc (.cells c e)).heap[k]? = w.heap[k]?:=fun k hk=>heap_alloc_old w _ hk
 have hcase:∀ b' p,φ.upd (hs i).next (w.heap.size,0,c.size) b'=some p→(b'=(hs i).next∧p=(w.heap.size,0,c.size))∨(b'≠(hs i).next∧φ b'=some p):=by
  intro b' p hb;by_cases hbn:b'=(hs i).next;subst hbn; rw[Emb.upd_same] at hb; cases hb; exact .inl ⟨rfl,rfl⟩;rw[Emb.upd_other φ _ hbn] at hb; exact .inr ⟨hbn,hb⟩
 have hnchain:∀ c' (oc:Oper),ops[c']? = some oc→clsI ex c' oc.op = .chain→c'≠i:=by
  rintro c' oc hoc hcc rfl;rw[hi] at hoc; cases hoc; rw[hcls] at hcc; cases hcc
 refine⟨f1,f2,f3,f4,f5,f6,?_,?_,?_,?_,?_,?_,Emb.le_trans I.le hle,?_,?_,?_,I.os,I.tape,I.output,by simp; have:=I.wsize; omega⟩;intro k hk hLk b h1 h2;rw[hL] at hLk;simp only[fH,decide_eq_false_iff_not] at hLk;have hbn:b≠(hs i).next:=by
  rintro rfl;exact hLk.1 (ranges_apart T hk hin h1 h2 (fA _) (by omega))
 rw[Emb.upd_other φ _ hbn];exact I.free k hk hLk.2 b h1 h2;intro k hLk b h1 h2;rw[hL] at hLk;simp only[dP,decide_eq_true_eq] at hLk;rcases hLk with rfl|hLk
 have:b=(hs k).next:=by omega
 subst this;exact⟨_,Emb.upd_same _ _ _⟩;obtain⟨p,hp⟩:=I.defd k hLk b h1 h2;exact⟨p,hle _ _ hp⟩;intro g hg;obtain⟨z,hz⟩:=I.glob g hg;exact⟨z,hle _ _ hz⟩;intro b k j z hb;simp only[World.size_alloc];rcases hcase b _ hb with ⟨_,h⟩|⟨_,h⟩
 cases h; omega
 have:=I.lies b k j z h; omega;intro k hk hcomp;have hcompL:∀ c' (oc:Oper),ops[c']? = some oc→clsI ex c' oc.op = .chain→hs (c'+1)≠hs c'→((c'<k∧L c'=false)∨(k≤c'∧L c'=true))→ex.contains c'=true:=by
  intro c' oc hoc hcl hne hside;refine hcomp c' oc hoc hcl hne ?_;have hci:=hnchain c' oc hoc hcl;rcases hside with ⟨h1,h2⟩|⟨h1,h2⟩
  exact .inl ⟨h1,by rw[hL]; simp[hci,h2]⟩;exact .inr ⟨h1,hmono c' h2⟩
 refine(I.heap k hk hcompL).define hφ ?_ hlen hcells;by_cases hki:k≤i;exact .inl (T.nextLe k i hki (by omega)).next;refine .inr ⟨(hs i).nfam,?_⟩;have hext:HExt (hs (i+1)) (hs k):=T.extRange (by omega) hk (by
  intro q h1 h2 oq hoq hcq hne;by_cases hLq:L q=true;rcases hok.allo q i oq o hoq hi hcq hcls (by omega) with h|h
  exact h;have:=h.closed I.closed hLq;rw[hun] at this; cases this;exact hcompL q oq hoq hcq hne (.inl ⟨h2,by simpa using hLq⟩))
 rw[hext.get _ (by omega),hal,AHeap.get_alloc,if_pos rfl];intro j oj cs' hoj hLj hcl hal' hall;rw[hL] at hLj;simp only[dP,decide_eq_true_eq] at hLj;rcases hLj with rfl|hLj
 have hcs:cs'=cs:=by
  have h1:=congrArg (fun h=>AHeap.get h (hs j).next) (hal.symm.trans hal');simp only[AHeap.get_alloc,if_pos] at h1
  cases h1; rfl
 subst hcs;refine⟨w.heap.size,c.size,c,e,Emb.upd_same _ _ _,heap_alloc_new w _,rfl,hlen,fun q x hx=>let⟨u,h1,h2⟩:=hcells q x hx; ⟨u,h1,h2.mono hle⟩,?_⟩;intro b' i' z' hb';rcases hcase b' _ hb' with ⟨h,_⟩|⟨_,h⟩
 exact h;have:=I.lies b' _ i' z' h; omega;obtain⟨k,z,c1,e1,h1,h2,h3,h4,h5,h6⟩:=(I.own j oj cs' hoj hLj hcl hal' (fun c' oc hoc hcc hLc=>hall c' oc hoc hcc (hmono c' hLc))).lies;have hk:k<w.heap.size:=(dO.1 h2).1;refine⟨k,z,c1,e1,hle _ _ h1,(hold k hk).trans h2,h3,h4,fun q x hx=>let⟨u,q1,q2⟩:=h5 q x hx; ⟨u,q1,q2.mono hle⟩,?_⟩;intro b' i' z' hb';rcases hcase b' _ hb' with ⟨_,h⟩|⟨_,h⟩
 cases h; omega
 exact h6 b' i' z' h;intro b p h1 h2;rcases hcase b p h2 with ⟨rfl,_⟩|⟨_,h⟩
 have e1:=(T.nextLe 0 i (by omega) (by omega)).next;have e2:=(T.nextLe (i+1) ops.size (by omega) (by omega)).next;omega;exact I.fresh b p h1 h;intro b k j z h1 h2;rcases hcase b _ h2 with ⟨_,h⟩|⟨_,h⟩
 cases h; exact .inl I.wsize
 exact I.img b k j z h1 h;intro k hk hm;rw[hold k (dV hk I.wsize)];exact I.frame k hk hm
theorem Inv.chain {φ0 φ φ' : Emb} {w0 w w' : World} {a : Act} {L : Nat → Bool} (I : Inv D P ops ex sz vs frs hs φ0 w0 L φ a w) (T : Txt P ops ex sz vs frs hs) (hok : RgOk sz ops ex st) (hf0 : Fresh φ0 (hs 0) (hs ops.size)) {i : Nat} {o : Oper}
    (hi:ops[i]? = some o) (hun:L i=false) (hcls:clsI ex i o.op = .chain) (hr:∀ e∈o.after,dS .any e=true→L e.on=true) (t:Trans φ (hs i) w φ' (hs (i+1)) w') (r':HRel φ' (hs (i+1)) w')
    {v:Value} (hv:VRel φ' (vs i) v) {L':Nat→Bool} (hL:∀ k,L' k=(decide (k=i) || L k)):Inv D P ops ex sz vs frs hs φ0 w0 L' φ' (a.put o.dst v) w':=by
 have hin:i<ops.size:=(dO.1 hi).1;obtain⟨f1,f2,f3,f4,f5,f6⟩:=I.frameStep hok hi hr t.le hv hL;have hmono:∀ k,L k=true→L' k=true:=fun k hk=>by rw[hL]; simp[hk]
 have hnx:=(T.nextLe i (i+1) (by omega) (by omega)).next;have hg0:=(T.nextLe 0 i (by omega) (by omega));have hgn:=(T.nextLe (i+1) ops.size (by omega) (by omega)).next;have hbefore:∀ c' (oc:Oper),ops[c']? = some oc→clsI ex c' oc.op = .chain→c'<i→L c'=true:=fun c' oc hoc hcc hlt=>(hok.chain i c' o oc hi hoc hcls hcc hlt).ready I.closed hi hr
 have hbehind:∀ c' (oc:Oper),ops[c']? = some oc→clsI ex c' oc.op = .chain→i<c'→L c'=false:=by
  intro c' oc hoc hcc hlt
  cases hLc:L c' with
  | false=>rfl
  | true=>
   have:=(hok.chain c' i oc o hoc hi hcc hcls hlt).closed I.closed hLc;rw[hun] at this; cases this
 have hfree:∀ k,k<ops.size→L' k=false→∀ b,(hs k).next≤b→b<(hs (k+1)).next→φ' b=none:=by
  intro k hk hLk b h1 h2;rw[hL] at hLk;simp only[fH,decide_eq_false_iff_not] at hLk
  cases hb : φ' b with
  | none=>rfl
  | some p=>
   have:=t.new b p (I.free k hk hLk.2 b h1 h2) hb;exact absurd (ranges_apart T hk hin h1 h2 this.1 this.2) hLk.1
 have hownstep:∀ j (oj:Oper) cs,ops[j]? = some oj→L j=true→clsI ex j oj.op = .allo→hs (j+1)=(hs j).alloc cs→i<j→Own φ' w' (hs j).next cs:=by
  intro j oj cs hoj hLj hcl hal hij;have hjn:j<ops.size:=(dO.1 hoj).1;refine(I.own j oj cs hoj hLj hcl hal ?_).step (T.nextLe i j (by omega) (by omega)).next t;intro c' oc hoc hcc hLc;rcases gO c' i with h|h|h
  omega;subst h; rw[hun] at hLc; cases hLc;rw[hbehind c' oc hoc hcc h] at hLc; cases hLc
 have hback:∀ b,(∃ p,φ0 b=some p)→(∃ B,(hs i).get b=some B)→b<(hs 0).next:=by
  rintro b ⟨p,hp⟩ ⟨B,hB⟩;apply Nat.lt_of_not_le;intro hle;have:=hf0 b hle (by have:=AHeap.get_lt hB; omega);rw[hp] at this; cases this
 have hmut:∀ k,k<w0.heap.size→(hs i).mut φ k→(hs 0).mut φ0 k:=by
  rintro k hk ⟨b,j,z,hb,hm⟩
  cases hφ : φ0 b with
  | none=>
   rcases I.img b k j z hφ hb with h3|⟨b0,i0,z0,F,p,cs,h3,h4⟩
   omega;exact⟨b0,i0,z0,h3,.inl ⟨F,p,cs,h4⟩⟩
  | some q=>
   have:=I.le b q hφ;rw[hb] at this;cases this;rcases hm with ⟨F,p,cs,h4⟩|⟨_,_,h4⟩
   obtain⟨cs',h5,_⟩:=hg0.back (hback b ⟨_,hφ⟩ ⟨_,h4⟩) h4;exact⟨b,j,z,hφ,.inl ⟨F,p,cs',h5⟩⟩;obtain⟨F',x',h5⟩:=hg0.backMap (hback b ⟨_,hφ⟩ ⟨_,h4⟩) h4;exact⟨b,j,z,hφ,.inr ⟨F',x',h5⟩⟩
 refine⟨f1,f2,f3,f4,f5,f6,hfree,?_,?_,r'.lt,?_,?_,Emb.le_trans I.le t.le,?_,?_,?_,t.os.trans I.os,t.tape.trans I.tape,t.output.trans I.output,fJ I.wsize t.size⟩;intro k hLk b h1 h2;rw[hL] at hLk;simp only[dP,decide_eq_true_eq] at hLk;rcases hLk with rfl|hLk
 exact t.dom b h1 h2;obtain⟨p,hp⟩:=I.defd k hLk b h1 h2;exact⟨p,t.le _ _ hp⟩;intro g hg;obtain⟨z,hz⟩:=I.glob g hg;exact⟨z,t.le _ _ hz⟩
 ·intro k hk hcomp;by_cases hki:k≤i;refine T.down (by omega) (by omega) ?_ r';intro q h1 h2 oq hoq hcq hne;refine hcomp q oq hoq hcq hne (.inr ⟨h1,?_⟩);by_cases hqi:q=i;subst hqi; rw[hL]; simp;exact hmono q (hbefore q oq hoq hcq (by omega))
  ·refine T.up (show i+1≤k by omega) hk ?_ ?_ r';intro q h1 h2 oq hoq hcq hne;refine hcomp q oq hoq hcq hne (.inl ⟨h2,?_⟩);rw[hL,hbehind q oq hoq hcq (by omega)];simp; omega
   ·intro q oq h1 h2 hoq;have hqn:q<ops.size:=by omega
    cases hLq:L q with
    | false=>
     refine .inl (hfree q hqn ?_);rw[hL,hLq]; simp; omega
    | true=>
     rcases(T.ts q oq hqn hoq).2 with ⟨_,_,_,_,_,_,_,h⟩|⟨_,hst,_⟩
     exact .inr (.inl h)
     ·cases hc:clsI ex q oq.op with
      | pure=>unfold SemI at hst; rw[hc] at hst; exact .inr (.inl hst.2)
      | read=>unfold SemI at hst; rw[hc] at hst; exact .inr (.inl hst.2)
      | allo=>
       unfold SemI at hst; rw[hc] at hst;obtain⟨mk,cs,_,_,h⟩:=hst;exact .inr (.inr ⟨cs,h,hownstep q oq cs hoq hLq hc h (by omega)⟩)
      | chain=>rw[hbehind q oq hoq hc (by omega)] at hLq; cases hLq
 intro j oj cs hoj hLj hcl hal hall;have hij:i<j:=hall i o hi hcls (by rw[hL]; simp);rw[hL] at hLj;simp only[dP,decide_eq_true_eq] at hLj;rcases hLj with rfl|hLj
 omega;exact hownstep j oj cs hoj hLj hcl hal hij
 ·intro b p h1 h2
  cases hφ : φ b with
  | some q=>exact I.fresh b q h1 hφ
  | none=>
   have:=t.new b p hφ h2;have:=hg0.next;omega
 ·intro b k j z h1 h2
  cases hφ : φ b with
  | some q=>
   have:=t.le b q hφ;rw[h2] at this;cases this;exact I.img b k j z h1 hφ
  | none=>
   rcases t.img b k j z hφ h2 with h3|⟨b0,i0,z0,F,p,cs,h3,h4⟩
   exact .inl (fJ I.wsize h3)
   ·by_cases hk:w0.heap.size≤k;exact .inl hk
    ·refine .inr ?_
     cases hφ0 : φ0 b0 with
     | none=>
      rcases I.img b0 k i0 z0 hφ0 h3 with h5|h5
      omega;exact h5
     | some q=>
      have:=I.le b0 q hφ0;rw[h3] at this;cases this;obtain⟨cs',h5,_⟩:=hg0.back (hback b0 ⟨_,hφ0⟩ ⟨_,h4⟩) h4;exact⟨b0,i0,z0,F,p,cs',hφ0,h5⟩
 intro k hk hm;rw[t.frame k (dV hk I.wsize) (fun hm'=>hm (hmut k hk hm'))];exact I.frame k hk hm
theorem Inv.all {φ0 : Emb} {w0 : World} (T : Txt P ops ex sz vs frs hs) (hok : RgOk sz ops ex st) (hstab : ∀ c r (o : Oper), (c, r) ∈ st → c < ops.size → ops[r]? = some o → areadR P (hs (c + 1)) (evalA (hs r).globs (frs r)) o.op = some (vs r)) (hf0 : Fresh φ0 (hs 0) (hs ops.size)) {Q : Exit → Act → World → Prop}
    (hq:∀ φ a w,Trans φ0 (hs 0) w0 φ (hs ops.size) w→Sim D φ (frs ops.size) (hs ops.size) a w→Q .normal a w) :
    ∀ (fuel : Nat) (listed : Array Bool) (φ : Emb) (a : Act) (w : World), listed.size = ops.size → (dZ ops.size).countP (fun k => !listed.getD k false) ≤ fuel →
      Inv D P ops ex sz vs frs hs φ0 w0 (fun k=>listed.getD k false) φ a w→wpAny P .any ops Q fuel listed a w:=by
 have hdone:∀ (listed:Array Bool) (φ:Emb) (a:Act) (w:World),listed.size=ops.size→Inv D P ops ex sz vs frs hs φ0 w0 (fun k=>listed.getD k false) φ a w→fK .any ops listed = []→Q .normal a w:=by
  intro listed φ a w hsz I hrd;have hall:∀ i,i<ops.size→listed.getD i false=true:=by
   intro i
   induction i using gB with
   | _ i ih=>
    intro hi;have ho:=dU (xs:=ops) (i:=i) hi
    cases hL:listed.getD i false with
    | true=>rfl
    | false=>
     have:i∈fK .any ops listed:=by
      rw[mem_ready];refine⟨?_,ops[i],ho,?_⟩;rw[dR,dU (by omega)] at hL⊢;exact hL;intro e he hb;have hlt:=hok.back i _ e ho he hb;exact ih e.on hlt (by omega)
     rw[hrd] at this;cases this
  have hrel:=I.heap ops.size (fA _) (by
   intro c oc hoc _ _ hside;have hc:=(dO.1 hoc).1;rcases hside with ⟨_,h⟩|⟨h,_⟩
   have:=hall c hc; rw[this] at h; cases h;omega)
  refine hq φ a w ⟨I.le,?_,I.fresh,I.img,I.frame,I.os,I.tape,I.output,I.wsize⟩ ⟨hrel,I.defers,?_,?_⟩
  ·intro b h1 h2;have:∀ d,d≤ops.size→b<(hs d).next→∃ i,i<d∧(hs i).next≤b∧b<(hs (i+1)).next:=by
    intro d
    induction d with
    | zero=>intro _ h; omega
    | succ d ih=>
     intro hd h;by_cases h':b<(hs d).next;obtain⟨i,hi,h3⟩:=ih (by omega) h';exact⟨i,by omega,h3⟩;exact⟨d,by omega,by omega,h⟩
   obtain⟨i,hi,h3,h4⟩:=this ops.size (fA _) h2;exact I.defd i (hall i hi) b h3 h4
  rw[T.len _ (fA _),I.size];intro t x v hx hv;have ht:t<sz:=by rw[←T.len ops.size (fA _)]; exact(fR.1 hx).1
  rcases T.slot hok ops.size (fA _) t ht with ⟨j,oj,hj,hoj,hdj,hval⟩|⟨hno,hval⟩
  rw[hval] at hx; cases hx;exact I.new j oj t v hoj (hall j hj) hdj hv;rw[hval] at hx;exact I.old t x v (fun k o ho _=>hno k o (dO.1 ho).1 ho) hx hv
 have hnext:∀ (listed:Array Bool) (i:Nat),listed.size=ops.size→i<ops.size→∀ k,(listed.setIfInBounds i true).getD k false=(decide (k=i) || listed.getD k false):=by
  intro listed i hsz hi k;by_cases hki:k=i;subst hki;simp[show k<listed.size by omega];rw[getD_set_ne false (fun h=>hki h.symm)];simp[hki]
 intro fuel
 induction fuel with
 | zero=>
  intro listed φ a w hsz hcnt I;have hrd:fK .any ops listed = []:=by
   cases hr:fK .any ops listed with
   | nil=>rfl
   | cons i l=>
    have hm:i∈fK .any ops listed:=by rw[hr]; simp
    rw[mem_ready] at hm;obtain⟨h0,o,ho,_⟩:=hm;have hi:=(dO.1 ho).1;have : 0<(dZ ops.size).countP (fun k=>!listed.getD k false):=by
     rw[List.countP_pos_iff];refine⟨i,gJ.2 hi,?_⟩;rw[dR,dU (by omega)] at h0⊢;simpa using h0
    omega
  exact⟨hrd,hdone listed φ a w hsz I hrd⟩
 | succ fuel ih=>
  intro listed φ a w hsz hcnt I;refine⟨fun h=>hdone listed φ a w hsz I h,?_⟩;intro i hi;rw[mem_ready] at hi;obtain⟨h0,o,ho,hedges⟩:=hi;have hin:=(dO.1 ho).1;have hun:listed.getD i false=false:=by
   rw[dR,dU (by omega)] at h0⊢;exact h0
  have hL:=hnext listed i hsz hin;have hcnt':(dZ ops.size).countP (fun k=>!(listed.setIfInBounds i true).getD k false)≤fuel:=by
   have hlt:(dZ ops.size).countP (fun k=>!(listed.setIfInBounds i true).getD k false)<(dZ ops.size).countP (fun k=>!listed.getD k false):=by
    have hgen:∀ n,i<n→(dZ n).countP (fun k=>!(listed.setIfInBounds i true).getD k false)<(dZ n).countP (fun k=>!listed.getD k false):=by
     have hle:∀ n,(dZ n).countP (fun k=>!(listed.setIfInBounds i true).getD k false)≤(dZ n).countP (fun k=>!listed.getD k false):=by
      intro n;refine List.countP_mono_left ?_;intro k _ hk;rw[hL] at hk;simp at hk⊢;exact hk.2
     intro n
     induction n with
     | zero=>intro h; omega
     | succ n ihn=>
      intro h;rw[List.range_succ,gE,gE,fT,fT];by_cases hni:i=n;subst hni;have e1:(!(listed.setIfInBounds i true).getD i false)=false:=by rw[hL]; simp
      have e2:(!listed.getD i false)=true:=by rw[hun]; rfl
      rw[e1,e2];have:=hle i;simp;simp at this;omega;have:=ihn (by omega);have e:(listed.setIfInBounds i true).getD n false=listed.getD n false:=by rw[hL]; simp; omega
      rw[e];omega
    exact hgen ops.size hin
   omega
  have hrest:∀ φ' a' w',Inv D P ops ex sz vs frs hs φ0 w0 (fun k=>(listed.setIfInBounds i true).getD k false) φ' a' w'→wpAny P .any ops Q fuel (listed.setIfInBounds i true) a' w':=
   fun φ' a' w' I'=>ih (listed.setIfInBounds i true) φ' a' w' (by simpa using hsz) hcnt' I'
  have hopnd:=I.opnd T hok ho hun hedges;unfold wpOp;simp only[ho];rcases(T.ts i o hin ho).2 with ⟨j,want,b,hg,hb,hbw,hvs,hsame⟩|⟨hguard,hst,_⟩
  have hw:fD o (yielded ops a.tmps)=false:=by
   simp[fD,hg,I.wanted T hok ho hun hedges hg hb];exact hbw
  simp only[hw,fY,if_false];exact hrest φ _ w (I.still T hok ho hedges hsame (by rw[hvs]; exact VRel.undef φ) hL)
  ·have hw:fD o (yielded ops a.tmps)=true:=by
    rcases hguard with hg|⟨j,want,hg,hb⟩
    simp[fD,hg];simp[fD,hg,I.wanted T hok ho hun hedges hg hb]
   simp only[hw,if_true];refine .inl ?_;have hcomp0:∀ i',(∀ c (oc:Oper),ops[c]? = some oc→clsI ex c oc.op = .chain→hs (c+1)≠hs c→((c<i'∧listed.getD c false=false)∨(i'≤c∧listed.getD c false=true))→ex.contains c=true)→i'≤ops.size→HRel φ (hs i') w:=fun i' h hi'=>I.heap i' hi' h
   cases hc:clsI ex i o.op with
   | pure=>
    unfold SemI at hst; rw[hc] at hst;obtain⟨c,hrun,hv⟩:=apure_sound (ev:=a.eval) hopnd hst.1 w;exact wp_of_run hrun (hrest φ _ w (I.still T hok ho hedges hst.2 hv hL))
   | read=>
    unfold SemI at hst; rw[hc] at hst;by_cases hstx:∃ (c:Nat) (oc:Oper),ops[c]? = some oc∧clsI ex c oc.op = .chain∧listed.getD c false=true∧(c,i)∈st∧i<c
    ·
      have hmax:∃ (c:Nat) (oc:Oper),(ops[c]? = some oc∧clsI ex c oc.op = .chain∧listed.getD c false=true∧(c,i)∈st∧i<c)∧∀ (c':Nat) (oc':Oper),(ops[c']? = some oc'∧clsI ex c' oc'.op = .chain∧listed.getD c' false=true∧(c',i)∈st∧i<c')→c'≤c:=by
        have key:∀ (k c:Nat) (oc:Oper),ops.size - c=k→(ops[c]? = some oc∧clsI ex c oc.op = .chain∧listed.getD c false=true∧(c,i)∈st∧i<c)→∃ (c:Nat) (oc:Oper),(ops[c]? = some oc∧clsI ex c oc.op = .chain∧listed.getD c false=true∧(c,i)∈st∧i<c)∧∀ (c':Nat) (oc':Oper),(ops[c']? = some oc'∧clsI ex c' oc'.op = .chain∧listed.getD c' false=true∧(c',i)∈st∧i<c')→c'≤c:=by
          intro k
          induction k using gB with
          | _ k ihk=>
            intro c oc hk hcc;by_cases hb:∃ (c':Nat) (oc':Oper),(ops[c']? = some oc'∧clsI ex c' oc'.op = .chain∧listed.getD c' false=true∧(c',i)∈st∧i<c')∧c<c';obtain⟨c',oc',h1,h2⟩:=hb;have hlt:=(dO.1 h1.1).1;exact ihk (ops.size - c') (by omega) c' oc' rfl h1;exact⟨c,oc,hcc,fun c' oc' h1=>Classical.byContradiction fun h2=>hb ⟨c',oc',h1,by omega⟩⟩
        obtain⟨c,oc,h⟩:=hstx;exact key _ c oc rfl h
      obtain⟨c,oc,⟨hoc,hcc,hcl,hcs,hci⟩,hcm⟩:=hmax;have hclt:=(dO.1 hoc).1;have hrel:HRel φ (hs (c+1)) w:=by
        refine hcomp0 (c+1) ?_ (by omega);intro c' oc' hoc' hcc' _ hside;rcases hside with ⟨h1,h2⟩|⟨h1,h2⟩
        by_cases hce:c'=c;subst hce; rw[hcl] at h2; cases h2;have:=(hok.chain c c' oc oc' hoc hoc' hcc hcc' (by omega)).closed I.closed hcl;rw[h2] at this; cases this;rcases hok.read c' i oc' o hoc' ho hcc' hc with h|h|h|⟨h,h'⟩
        exact h;have:=h.closed I.closed h2;rw[hun] at this; cases this;have:=dep_lt hok h; omega;have:=hcm c' oc' ⟨hoc',hcc',h2,h',h⟩; omega
      obtain⟨cv,hrun,hv⟩:=areadR_sound (ev:=a.eval) hrel hopnd (hstab c i o hcs hclt ho);exact wp_of_run hrun (hrest φ _ w (I.still T hok ho hedges hst.2 hv hL))
    have hrel:HRel φ (hs i) w:=by
     refine hcomp0 i ?_ (by omega);intro c oc hoc hcc _ hside;rcases hok.read c i oc o hoc ho hcc hc with h|h|h|⟨h,h'⟩
     exact h;have hlt:=dep_lt hok h;rcases hside with ⟨h1,_⟩|⟨_,h2⟩
     omega;have:=h.closed I.closed h2;rw[hun] at this; cases this;have hlt:=dep_lt hok h;have:=h.ready I.closed ho hedges;rcases hside with ⟨_,h2⟩|⟨h1,_⟩
     rw[h2] at this; cases this;omega;rcases hside with ⟨h1,_⟩|⟨_,h2⟩
     omega;exact absurd ⟨c,oc,hoc,hcc,h2,h',h⟩ hstx
    obtain⟨c,hrun,hv⟩:=hst.1 φ w a.eval hrel hopnd;exact wp_of_run hrun (hrest φ _ w (I.still T hok ho hedges hst.2 hv hL))
   | allo=>
    unfold SemI at hst; rw[hc] at hst;obtain⟨mk,cs,hal,hvs,hh⟩:=hst;obtain⟨c,e,v,hrun,hlen,hcells,hval⟩:=aallo_sound (ev:=a.eval) (w:=w) hopnd hal;refine wp_of_run hrun (hrest _ _ _ (I.allo T hok ho hun hc hedges hh hlen hcells ?_ hL));rw[hvs];exact hval _ _ (Emb.upd_same _ _ _)
   | chain=>
    have hrel:HRel φ (hs i) w:=by
     refine hcomp0 i ?_ (by omega);intro c oc hoc hcc _ hside;rcases hside with ⟨h1,h2⟩|⟨h1,h2⟩
     have:=(hok.chain i c o oc ho hoc hc hcc h1).ready I.closed ho hedges;rw[h2] at this; cases this;by_cases hci:c=i;subst hci; rw[hun] at h2; cases h2;have:=(hok.chain c i oc o hoc ho hcc hc (by omega)).closed I.closed h2;rw[hun] at this; cases this
    unfold SemI at hst; rw[hc] at hst;refine hst.2 φ a w _ Q (fun b h1 h2=>I.free i hin hun b h1 h2) hrel hopnd ?_;intro φ' c w' t r' hv;exact hrest φ' _ w' (I.chain T hok hf0 ho hun hc hedges t r' hv hL)
end drawn
theorem AW.region_run {P : Program} {id : Nat} {ops : Array Oper} {ex : List Nat} {st : List (Nat × Nat)} {sz : Nat} {Q : Ex → List AV → AHeap → Prop} {fr : List AV} {h : AHeap} (hm : P.follows .mixedOrders = true)
    (hok:RgOk sz ops ex st) (hsz:fr.length=sz) {vs:Nat→AV} {frs:Nat→List AV} {hs:Nat→AHeap} (e1:frs 0=fr) (e2:hs 0=h) (hK:Q .normal (frs ops.size) (hs ops.size))
    (hts:∀ i o,i<ops.size→ops[i]? = some o→TS P ops ex i o (frs i) (hs i) (vs i) (frs (i+1)) (hs (i+1)))
    (hstab:∀ c r (o:Oper),(c,r)∈st→c<ops.size→ops[r]? = some o→areadR P (hs (c+1)) (evalA (hs r).globs (frs r)) o.op=some (vs r)):AW P (.region id ops true) Q fr h:=by
 have hgrow:HGrow h (hs ops.size):=by
  have:∀ i,i≤ops.size→HGrow (hs 0) (hs i):=by
   intro i
   induction i with
   | zero=>intro _; exact HGrow.refl _
   | succ i ih=>intro hi; exact(ih (by omega)).trans (hts i _ (by omega) (dU (by omega))).grow
  rw[←e2];exact this _ (fA _)
 refine⟨.normal,frs ops.size,hs ops.size,⟨hgrow,?_⟩,hK⟩;intro D φ a w hfr s;refine wp_region_any hm ?_;rw[←e1,←e2] at s;rw[←e2] at hfr;obtain⟨g0,gn,hst⟩:=text_states hts hfr s;have T:Txt P ops ex sz vs frs hs:=by
  refine⟨hts,?_,fun i hi=>(g0 i hi).globs,by rw[e1]; exact hsz⟩;intro i hi;obtain⟨φ',a',w',s',_⟩:=hst i hi;exact s'.heap.ext
 have hdrew:({w with drawn:=w.drawn+1}:World)=w.drew:=rfl;rw[hdrew];refine Inv.all (D:=D) T hok hstab hfr (Q:=fun e' a' w'=>e'=Ex.normal.toExit∧∃ φ',Trans φ h w φ' (hs ops.size) w'∧Sim D φ' (frs ops.size) (hs ops.size) a' w') (w0:=w.drew) ?_ ops.size _ φ a w.drew (by simp) ?_ ?_;intro φ' a' w' t s';rw[e2] at t;exact⟨rfl,φ',t.drew,s'⟩;exact fJ List.countP_le_length (by simp);have hno:∀ k,(Array.replicate ops.size false).getD k false=false:=by
  intro k;rw[dR];by_cases hk:k<ops.size;simp[hk];simp[hk]
 have hd:=s.heap.drew;refine⟨?_,?_,s.fr.1,?_,?_,?_,?_,?_,hd.glob,hd.lt,?_,?_,Emb.le_refl φ,?_,?_,fun _ _ _=>rfl,rfl,rfl,rfl,fA _⟩;intro i o e _ h _ _; rw[hno] at h; cases h;intro i h; rw[hno] at h; cases h;rw[←s.fr.2.1,e1]; exact hsz;intro i o d v _ h _ _; rw[hno] at h; cases h;intro t x v _ hx hv; exact s.fr.2.2 t x v hx hv;intro i hi _ b h1 h2;exact hfr b (fJ (g0 i (by omega)).next h1) (dV h2 (gn (i+1) (by omega)).next);intro i h; rw[hno] at h; cases h;intro i hi hcomp;refine T.up (Nat.zero_le i) hi ?_ ?_ hd;intro k _ hk oc hoc hcc hne;exact hcomp k oc hoc hcc hne (.inl ⟨hk,hno k⟩);intro k o _ hk _;refine .inl ?_;intro b h1 h2;exact hfr b (fJ (g0 k (by omega)).next h1) (dV h2 (gn (k+1) (by omega)).next);intro j o cs _ h _ _ _; rw[hno] at h; cases h;intro b p h1 h2; rw[h1] at h2; cases h2;intro b k i z h1 h2; rw[h1] at h2; cases h2
def isChain (ex:List Nat) (i:Nat) (o:Oper):Bool:=clsI ex i o.op == .chain
def isRead (ex:List Nat) (i:Nat) (o:Oper):Bool:=clsI ex i o.op == .read
def isAllo (ex:List Nat) (i:Nat) (o:Oper):Bool:=clsI ex i o.op == .allo
def tmpsOf (o:Oper):List Nat:=o.op.operands.toList.filterMap fun | .tmp t=>some t|_=>none
def pairOk (ex:List Nat) (st:List (Nat × Nat)) (ri rj:Nat) (i j:Nat) (oi oj:Oper):Bool:=
  (i == j || oi.dst.isNone || !(oi.dst == oj.dst)) &&
  (match oj.dst with
    | some t=>!(tmpsOf oi).contains t || (decide (j<i) && inMask ri j) || (decide (i<j) && inMask rj i)
    | none=>true) &&
  (!(isChain ex i oi && isChain ex j oj && decide (j<i)) || inMask ri j) &&
  (!(isChain ex i oi && isRead ex j oj) || ex.contains i || inMask ri j || inMask rj i || (decide (j<i) && st.contains (i,j))) &&
  (!(isChain ex i oi && isAllo ex j oj && decide (j<i)) || ex.contains i || inMask ri j)
def oneOk (sz:Nat) (ri:Nat) (i:Nat) (o:Oper):Bool:=
  o.after.toList.all (fun e=>!dS .any e || decide (e.on<i)) &&
  (match o.dst with|some d=>decide (d<sz)|none=>true) &&
  (match o.guard with|some (g,_)=>inMask ri g|none=>true)
def rgOk (sz:Nat) (l:List Oper) (ex:List Nat) (st:List (Nat × Nat):=[]):Bool:=
  let rl:=reachM [] l
  !(ex == TXT) && l.zipIdx.all fun(o,i)=>oneOk sz (rl.getD i 0) i o && l.zipIdx.all fun(o',j)=>pairOk ex st (rl.getD i 0) (rl.getD j 0) i j o o'
theorem rgOk_sound {sz:Nat} {ops:Array Oper} {l:List Oper} {ex:List Nat} {st:List (Nat × Nat)} (hl:ops.toList=l) (h:rgOk sz l ex st=true):RgOk sz ops ex st:=by
 subst hl;have hdep:∀ k j,inMask ((reachM [] ops.toList).getD k 0) j=true→Dep ops k j:=reachM_dep ops.toList [] (by simp) (by intro k j h; simp[inMask] at h);unfold rgOk at h;simp only[dY] at h;obtain⟨hntx,h⟩:=h;simp only[fU] at h;have hmem:∀ i o,ops[i]? = some o→(o,i)∈ops.toList.zipIdx:=by
  intro i o ho;rw[List.mem_zipIdx_iff_getElem?];simpa using ho
 have h1:∀ i o,ops[i]? = some o→oneOk sz ((reachM [] ops.toList).getD i 0) i o=true:=fun i o ho=>(dY _ _ ▸ h (o,i) (hmem i o ho)).1
 have h2:∀ i j oi oj,ops[i]? = some oi→ops[j]? = some oj→pairOk ex st ((reachM [] ops.toList).getD i 0) ((reachM [] ops.toList).getD j 0) i j oi oj=true:=by
  intro i j oi oj hi hj;have:=(dY _ _ ▸ h (oi,i) (hmem i oi hi)).2;exact fU.1 this (oj,j) (hmem j oj hj)
 refine⟨by simpa using hntx,?_,?_,?_,?_,?_,?_,?_,?_⟩;intro i o e ho he hb;have:=h1 i o ho;simp only[oneOk,dY,fU] at this;have:=this.1.1 e (by simpa using he);simpa [hb] using this;intro i o d ho hd;have:=h1 i o ho;simp only[oneOk,dY,hd] at this;simpa using this.1.2;intro i j oi oj d hi hj hdi hdj;have:=h2 i j oi oj hi hj;simp only[pairOk,dY,hdi,hdj] at this;have:=this.1.1.1.1;simpa using this;intro i j oi oj t hi hj ht hdj;have:=h2 i j oi oj hi hj;simp only[pairOk,dY,hdj] at this;have:=this.1.1.1.2;have hin:(tmpsOf oi).contains t=true:=by
  simp only[tmpsOf,fV,List.mem_filterMap];exact⟨.tmp t,by simpa using ht,rfl⟩
 simp only[hin,fN,fP,dP,dY,decide_eq_true_eq] at this;rcases this with ⟨a,b⟩|⟨a,b⟩
 exact .inl ⟨a,hdep _ _ b⟩;exact .inr ⟨a,hdep _ _ b⟩;intro i o g want ho hg;have:=h1 i o ho;simp only[oneOk,dY,hg] at this;exact hdep _ _ this.2;intro i j oi oj hi hj hci hcj hlt;have:=h2 i j oi oj hi hj;simp only[pairOk,dY] at this;have:=this.1.1.2;simp only[isChain,hci,hcj,beq_self_eq_true,hlt,decide_true,fZ,fN,fP] at this;exact hdep _ _ this;intro c r oc or hc hr hcc hrr;have:=h2 c r oc or hc hr;simp only[pairOk,dY] at this;have:=this.1.2;simp only[isChain,isRead,hcc,hrr,beq_self_eq_true,fZ,fN,fP,dP] at this;rcases this with ((a|a)|a)|a
 exact .inl a;exact .inr (.inl (hdep _ _ a));exact .inr (.inr (.inl (hdep _ _ a)));simp only[dY,decide_eq_true_eq,fV] at a;exact .inr (.inr (.inr a));intro c j oc oj hc hj hcc hjj hlt;have:=h2 c j oc oj hc hj;simp only[pairOk,dY] at this;have:=this.2;simp only[isChain,isAllo,hcc,hjj,beq_self_eq_true,hlt,decide_true,fZ,fN,fP,dP] at this;rcases this with a|a
 exact .inl a;exact .inr (hdep _ _ a)
theorem TS.of {P:Program} {ops:Array Oper} {ex:List Nat} {i:Nat} {o:Oper} {fr fr':List AV} {h h':AHeap} {v:AV} (t:Go.Am.TS P ops ex i o fr h v fr' h'):TS P ops ex i o fr h v fr' h':=
  ⟨t.1,t.2.imp id fun⟨h1,h2,h3⟩=>⟨h1,SemI.of h2,h3⟩⟩
end Go.Am.R
namespace Go.Am
end Go.Am
namespace Go.Am
inductive PartsAt (P:Program) (t:TypeId) (n:Nat):List (Nat × AV)→List (Nat × List AV)→Prop where
  | nil:PartsAt P t n [] []
  | cons {i off s:Nat} {v:AV} {l:List AV} {ps:List (Nat × AV)} {qs:List (Nat × List AV)} (hp:QB P t i=some (off,s)) (hc:v.cells? = some l) (hl:l.length=s) (hn:off+s≤n) (h:PartsAt P t n ps qs):PartsAt P t n ((i,v)::ps) ((off,l)::qs)
theorem VL {l:List AV} (h:l.all AV.one=true):(AV.agg l).cells? = some l:=by simp only[AV.cells?]; rw[if_pos h]
theorem putL_len2 {α:Type} {cs l:List α} {o:Nat} (h:o+l.length≤cs.length):(putL cs o l).length=cs.length:=by
 simp only[putL,List.length_append,List.length_take,List.length_drop]; omega
theorem PartsAt.fill {P:Program} {t:TypeId} {n:Nat} {ps:List (Nat × AV)} {qs:List (Nat × List AV)} (h:PartsAt P t n ps qs):∀ {cs:List AV},cs.length=n→Xy (QB P t) cs ps=some (qs.foldl (fun cs q=>putL cs q.1 q.2) cs):=by
 induction h with
 | nil=>intro cs _; rfl
 | cons hp hc hl hn _ ih=>
  intro cs hcs;simp only[Xy,hp,hc];rw[if_pos ⟨hl,by omega⟩];exact ih (by rw[putL_len2 aA]; exact hcs)
section
variable {P:Program} {n:Nat} {ops:Array Oper} {ex:List Nat} {Q:KF→AHeap→Prop} {k:Nat} {os:List Oper} {K:KF} {h0 h:AHeap} {objs:List Obj} {d:Nat} {ty:TypeId} {pos:String} {after:Array Edge}
theorem OP {t : TypeId} {l : List (Nat × Operand)} {vs zs cs : List AV} {qs : List (Nat × List AV)} [hl : EvKp h.globs n K l vs] (hz : Qf P t = some (.agg zs)) (hz1 : zs.all AV.one = true) (hok : ZU P t = true) (hp : PartsAt P t zs.length ((l.map (·.1)).zip vs) qs)
    (he:qs.foldl (fun cs q=>putL cs q.1 q.2) zs=cs) (hk:KOps P n ops ex Q (k+1) os ((d,.agg cs)::K) h) :
    KOps P n ops ex Q k (⟨some d,.build t (dX l),ty,pos,after,none⟩::os) K h:=by
 refine KOps.build (vs:=vs) (v:=.agg cs) ?_ hk;simp only[Xh,hz,VL hz1,hok,if_true,fE,dW,hp.fill rfl,he]
theorem KOps.loadPart {x : Operand} {p v : AV} {t : TypeId} {s j z : Nat} {xs ys : List AV} [hx : EvK h.globs n K x p] [ht : AgT P t z] (ha : AddrOf p v s j) (hr : Rd h v s xs) (hz : 0 < z) (hj : j + z ≤ xs.length) (hy : (xs.drop j).take z = ys) (hk : KOps P n ops ex Q (k + 1) os ((d, .agg ys) :: K) h) :
    KOps P n ops ex Q k (⟨some d,.load t x,ty,pos,after,none⟩::os) K h:=by
 subst hy;exact KOps.loadAgg ha hr hz hj hk
end
theorem St.pickF {h0 h:AHeap} {A A' F:List Obj} (k:Nat) (σ:List Nat) (hk:A.length=k) (hn : σ.Nodup) (hlt:∀ i∈σ,i<k) (he : σ.map (fun i=>A[i]?)=A'.map some) (st:St h0 h (A ++ F)):St h0 h (A' ++ F):=by
 have hp:St h0 h (F ++ A'):=by
  have h1:St h0 h (F ++ A):=st.rot;refine h1.pick ((dZ F.length) ++ σ.map (· + F.length)) ?_ ?_;refine List.nodup_append.2 ⟨List.nodup_range,?_,?_⟩;exact(List.pairwise_map.2 (hn.imp fun h e=>h aA));intro a ha b hb;have:=gJ.1 ha;obtain⟨c,_,rfl⟩:=List.mem_map.1 hb;omega;rw[gC,gC];congr 1;refine List.ext_getElem? fun i=>?_
  simp only[fB];by_cases hi:i<F.length;rw[dQ ab,dQ hi];simp[List.getElem?_append_left hi,dQ hi];rw[fF ab,fF aA]; rfl;rw[List.map_map,←he];refine List.map_congr_left fun i _=>?_
  show(F ++ A)[i+F.length]? = A[i]?;rw[List.getElem?_append_right aA,Nat.add_sub_cancel]
 exact hp.rot
end Go.Am
namespace Go.Am
def Qx : IntKind → Nat
  | .i8=>128 | .i16=>32768 | .i32=>2147483648 | .i64=>9223372036854775808
  | .u8=>256 | .u16=>65536 | .u32=>4294967296 | .u64=>18446744073709551616
theorem UL {kd:IntKind} {x:Nat} (h:x<Qx kd):kd.wrap (x:Int)=(x:Int):=by
 cases kd <;> simp only [Qx] at h <;> simp only [IntKind.wrap, IntKind.bits, IntKind.signed, Bool.true_and, Bool.false_and, ge_iff_le, decide_eq_true_eq, fY, if_false] <;>
   first
   | (have e1:(2:Int) ^ 8=256:=by decide); (have e2:(2:Int) ^ (8 - 1)=128:=by decide); rw[e1,e2]; split <;> omega
   | (have e1:(2:Int) ^ 16=65536:=by decide); (have e2:(2:Int) ^ (16 - 1)=32768:=by decide); rw[e1,e2]; split <;> omega
   | (have e1:(2:Int) ^ 32=4294967296:=by decide); (have e2:(2:Int) ^ (32 - 1)=2147483648:=by decide); rw[e1,e2]; split <;> omega
   | (have e1:(2:Int) ^ 64=18446744073709551616:=by decide); (have e2:(2:Int) ^ (64 - 1)=9223372036854775808:=by decide); rw[e1,e2]; split <;> omega
   | (have e1:(2:Int) ^ 8=256:=by decide); rw[e1]; omega
   | (have e1:(2:Int) ^ 16=65536:=by decide); rw[e1]; omega
   | (have e1:(2:Int) ^ 32=4294967296:=by decide); rw[e1]; omega
   | (have e1:(2:Int) ^ 64=18446744073709551616:=by decide); rw[e1]; omega
theorem Wr (kd:IntKind):∃ m,Qx kd=2 ^ m∧m≤kd.bits∧kd.bits≤m+1:=by
 cases kd;exact⟨7,by decide,by decide,by decide⟩;exact⟨15,by decide,by decide,by decide⟩;exact⟨31,by decide,by decide,by decide⟩;exact⟨63,by decide,by decide,by decide⟩;exact⟨8,by decide,by decide,by decide⟩;exact⟨16,by decide,by decide,by decide⟩;exact⟨32,by decide,by decide,by decide⟩;exact⟨64,by decide,by decide,by decide⟩
theorem V9 {kd:IntKind} {x:Nat} (h:x<Qx kd):(fO kd.bits (x:Int)).toNat=x:=by
 obtain⟨m,h1,h2,_⟩:=Wr kd;rw[BitVec.ofInt_natCast,BitVec.toNat_ofNat];exact Nat.mod_eq_of_lt (dV h (h1 ▸ fL aE h2))
theorem SX {kd:IntKind} {x y:Nat} (h:x<Qx kd):x &&& y<Qx kd:=fM gD h
theorem or_lt_topK {kd:IntKind} {x y:Nat} (hx:x<Qx kd) (hy:y<Qx kd):x ||| y<Qx kd:=by
 obtain⟨m,h1,-⟩:=Wr kd;rw[h1] at hx hy⊢;exact Nat.or_lt_two_pow hx hy
theorem bits_andN {kd:IntKind} {x y:Nat} (hx:x<Qx kd) (hy:y<Qx kd):Go.bits .and kd (x:Int) (y:Int)=((x &&& y:Nat):Int):=by
 show kd.wrap (((fO kd.bits (x:Int) &&& fO kd.bits (y:Int)).toNat:Nat):Int)=_;rw[gU,V9 hx,V9 hy,UL (SX hx)]
theorem bits_orN {kd:IntKind} {x y:Nat} (hx:x<Qx kd) (hy:y<Qx kd):Go.bits .or kd (x:Int) (y:Int)=((x ||| y:Nat):Int):=by
 show kd.wrap (((fO kd.bits (x:Int) ||| fO kd.bits (y:Int)).toNat:Nat):Int)=_;rw[BitVec.toNat_or,V9 hx,V9 hy,UL (or_lt_topK hx hy)]
theorem TW {m x y:Nat} (hx:x<2 ^ m) (hy:y<2 ^ m) (n:Nat) (hn:m≤n):x &&& (2 ^ n - 1 - y)=x ^^^ (x &&& y):=by
 refine Nat.eq_of_testBit_eq fun i=>?_
 rw[gG,Nat.testBit_xor,gG];have hyn:y<2 ^ n:=dV hy (fL aE hn);have e : 2 ^ n - 1 - y=2 ^ n - (y+1):=by omega
 rw[e,Nat.testBit_two_pow_sub_succ hyn];by_cases hi:i<n;simp only[hi,decide_true,Bool.true_and]
 cases x.testBit i <;> cases y.testBit i <;> rfl
 have:x.testBit i=false:=Nat.testBit_lt_two_pow (dV hx (fL aE aA));rw[this]; rfl
theorem T5 {kd:IntKind} {x y:Nat} (hx:x<Qx kd) (hy:y<Qx kd):Go.bits .andNot kd (x:Int) (y:Int)=((x ^^^ (x &&& y):Nat):Int):=by
 show kd.wrap (((fO kd.bits (x:Int) &&& ~~~fO kd.bits (y:Int)).toNat:Nat):Int)=_;obtain⟨m,h1,h2,-⟩:=Wr kd;have hx':=hx; have hy':=hy;rw[h1] at hx' hy';rw[gU,BitVec.toNat_not,V9 hx,V9 hy,TW hx' hy' _ h2,UL];rw[h1];exact Nat.xor_lt_two_pow hx' (fM gD hx')
theorem shrN (x k:Nat) (kd:IntKind) (hk:k≤kd.bits):(x:Int).fdiv (2 ^ Min.min (k:Int).toNat kd.bits)=((x >>> k:Nat):Int):=by
 rw[Int.toNat_natCast,gH hk,Int.fdiv_eq_ediv_of_nonneg _ (by exact Int.le_of_lt (Int.pow_pos aE)),Nat.shiftRight_eq_div_pow]
 norm_cast
theorem shlN {x k:Nat} {kd:IntKind} (hk:k≤kd.bits) (h:x <<< k<Qx kd):kd.wrap ((x:Int)*2 ^ Min.min (k:Int).toNat kd.bits)=((x <<< k:Nat):Int):=by
 rw[Int.toNat_natCast,gH hk,←UL h,Nat.shiftLeft_eq,Int.natCast_mul,Int.natCast_pow];rfl
theorem UM (x k:Nat):(x >>> k) &&& 1=if x.testBit k=true then 1 else 0:=by
 rw[Nat.testBit];rcases Nat.and_one_is_mod (x >>> k) ▸ Nat.mod_two_eq_zero_or_one (x >>> k) with h|h
 rw[h]; rw[Nat.and_comm] at h; rw[h]; rfl;rw[h]; rw[Nat.and_comm] at h; rw[h]; rfl
section
variable {P:Program} {n:Nat} {ops:Array Oper} {ex:List Nat} {Q:KF→AHeap→Prop} {k:Nat} {os:List Oper} {K:KF} {h:AHeap} {d:Nat} {ty:TypeId} {pos:String} {after:Array Edge}
theorem KOps.andN {t t' : TypeId} {x y : Operand} {kd : IntKind} {a b : Int} (i j : Nat) [hx : EvK h.globs n K x (.int kd a)] [hy : EvK h.globs n K y (.int kd b)] (ha : a = (i : Int)) (hb : b = (j : Int)) (hi : i < Qx kd) (hj : j < Qx kd) (hk : KOps P n ops ex Q (k + 1) os ((d, .int kd ((i &&& j : Nat) : Int)) :: K) h) :
    KOps P n ops ex Q k (⟨some d,.binOp .and t x y t',ty,pos,after,none⟩::os) K h:=by
 subst ha hb;exact K8 (.inr (.inr rfl)) (by simp only[Xi,bits_andN hi hj]) hk
theorem KOps.orN {t t' : TypeId} {x y : Operand} {kd : IntKind} {a b : Int} (i j : Nat) [hx : EvK h.globs n K x (.int kd a)] [hy : EvK h.globs n K y (.int kd b)] (ha : a = (i : Int)) (hb : b = (j : Int)) (hi : i < Qx kd) (hj : j < Qx kd) (hk : KOps P n ops ex Q (k + 1) os ((d, .int kd ((i ||| j : Nat) : Int)) :: K) h) :
    KOps P n ops ex Q k (⟨some d,.binOp .or t x y t',ty,pos,after,none⟩::os) K h:=by
 subst ha hb;exact K8 (.inr (.inr rfl)) (by simp only[Xi,bits_orN hi hj]) hk
theorem KOps.andNotN {t t' : TypeId} {x y : Operand} {kd : IntKind} {a b : Int} (i j : Nat) [hx : EvK h.globs n K x (.int kd a)] [hy : EvK h.globs n K y (.int kd b)] (ha : a = (i : Int)) (hb : b = (j : Int)) (hi : i < Qx kd) (hj : j < Qx kd) (hk : KOps P n ops ex Q (k + 1) os ((d, .int kd ((i ^^^ (i &&& j) : Nat) : Int)) :: K) h) :
    KOps P n ops ex Q k (⟨some d,.binOp .andNot t x y t',ty,pos,after,none⟩::os) K h:=by
 subst ha hb;exact K8 (.inr (.inr rfl)) (by simp only[Xi,T5 hi hj]) hk
theorem KOps.shrN {t t' : TypeId} {x y : Operand} {kd kd' : IntKind} {a b : Int} (i j : Nat) [hx : EvK h.globs n K x (.int kd a)] [hy : EvK h.globs n K y (.int kd' b)] (ha : a = (i : Int)) (hb : b = (j : Int)) (hj : j ≤ kd.bits) (hk : KOps P n ops ex Q (k + 1) os ((d, .int kd ((i >>> j : Nat) : Int)) :: K) h) :
    KOps P n ops ex Q k (⟨some d,.binOp .shr t x y t',ty,pos,after,none⟩::os) K h:=by
 subst ha hb;exact KOps.shr aA (by rw[Go.Am.shrN i j kd hj]; exact hk)
theorem ZO {t t' : TypeId} {x y : Operand} {kd kd' : IntKind} {a b : Int} (i j : Nat) [hx : EvK h.globs n K x (.int kd a)] [hy : EvK h.globs n K y (.int kd' b)] (ha : a = (i : Int)) (hb : b = (j : Int)) (hj : j ≤ kd.bits) (ht : i <<< j < Qx kd) (hk : KOps P n ops ex Q (k + 1) os ((d, .int kd ((i <<< j : Nat) : Int)) :: K) h) :
    KOps P n ops ex Q k (⟨some d,.binOp .shl t x y t',ty,pos,after,none⟩::os) K h:=by
 subst ha hb;exact KOps.shl aA (by rw[Go.Am.shlN hj ht]; exact hk)
theorem KOps.modN {t t' : TypeId} {x y : Operand} {a b : Int} (i j : Nat) [hx : EvK h.globs n K x (.int .i64 a)] [hy : EvK h.globs n K y (.int .i64 b)] (ha : a = (i : Int)) (hb : b = (j : Int)) (h0 : 0 < j) (hi : i < 9223372036854775807)
    (hk:KOps P n ops ex Q (k+1) os ((d,.int .i64 ((i % j:Nat):Int))::K) h):KOps P n ops ex Q k (⟨some d,.binOp .rem t x y t',ty,pos,after,none⟩::os) K h:=by
 subst ha; subst hb;have e:(i:Int).tmod (j:Int)=((i % j:Nat):Int):=by rw[Int.tmod_eq_emod_of_nonneg aA]; rfl
 have hl:=Nat.mod_le i j;refine Q5 aA ?_ ?_ ?_ <;> rw[e];omega;omega;exact hk
theorem KOps.divN {t t' : TypeId} {x y : Operand} {a b : Int} (i j : Nat) [hx : EvK h.globs n K x (.int .i64 a)] [hy : EvK h.globs n K y (.int .i64 b)] (ha : a = (i : Int)) (hb : b = (j : Int)) (h0 : 0 < j) (hi : i < 9223372036854775807)
    (hk:KOps P n ops ex Q (k+1) os ((d,.int .i64 ((i / j:Nat):Int))::K) h):KOps P n ops ex Q k (⟨some d,.binOp .quo t x y t',ty,pos,after,none⟩::os) K h:=by
 subst ha; subst hb;have e:(i:Int).tdiv (j:Int)=((i / j:Nat):Int):=by rw[Int.tdiv_eq_ediv_of_nonneg aA]; rfl
 have hl:=Nat.div_le_self i j;generalize i / j=q at e hl hk;refine KOps.quo aA ?_ ?_ ?_ <;> rw[e];omega;omega;exact hk
theorem KOps.max4 {x y z u : Operand} {tys : Array TypeId} {kd k2 k3 k4 : IntKind} {a b c e : Int} [hx : EvK h.globs n K x (.int kd a)] [hy : EvK h.globs n K y (.int k2 b)] [hz : EvK h.globs n K z (.int k3 c)] [hu : EvK h.globs n K u (.int k4 e)] (hk : KOps P n ops ex Q (k + 1) os ((d, .int kd (Max.max (Max.max (Max.max a b) c) e)) :: K) h) :
    KOps P n ops ex Q k (⟨some d,.call {callee:=.builtin .max,args:=#[x,y,z,u],argTypes:=tys},ty,pos,after,none⟩::os) K h:=
  O9 rfl (by
    have key:∀ p q:Int,(if q>p then q else p)=Max.max p q:=fun p q=>by omega
    simp only[apure,hx.eq,hy.eq,hz.eq,hu.eq,QL,if_true,dW,key]) hk
theorem KOps.min4 {x y z u : Operand} {tys : Array TypeId} {kd k2 k3 k4 : IntKind} {a b c e : Int} [hx : EvK h.globs n K x (.int kd a)] [hy : EvK h.globs n K y (.int k2 b)] [hz : EvK h.globs n K z (.int k3 c)] [hu : EvK h.globs n K u (.int k4 e)] (hk : KOps P n ops ex Q (k + 1) os ((d, .int kd (Min.min (Min.min (Min.min a b) c) e)) :: K) h) :
    KOps P n ops ex Q k (⟨some d,.call {callee:=.builtin .min,args:=#[x,y,z,u],argTypes:=tys},ty,pos,after,none⟩::os) K h:=
  O9 rfl (by
    have key:∀ p q:Int,(if q<p then q else p)=Min.min p q:=fun p q=>by omega
    simp only[apure,hx.eq,hy.eq,hz.eq,hu.eq,QL,fY,if_false,dW,key]) hk
end
end Go.Am
namespace Go.Am
theorem fnC.retC1 {P:Program} {n a m i b:Nat} {t:TypeId} {K:KF} {h0 h:AHeap} {R:AV→AHeap→Prop} {p v:AV} {xs:List AV} {tip:Bool} {objs:List Obj} (st:St h0 h objs) (hk:objs[i]? = some ⟨p,0,xs,tip⟩) (ha:AddrOf p p 0 0) [hb:Eqb (fS n a) false] [hl:Look K a p] [hb2:Eqb (fS n b) false] [hl2:Look K b v] [ht:AgT P t m] (hx:xs.length=m) (hm : 0<m) (hR:R (.tup [.agg xs,v]) h):fnC P n [.cell a t,.tmp b] R .ret K h:=by
 have hld:=Rd.loadAgg (P:=P) (t:=t) (st.rd i hk) ha hm aJ;refine⟨.inr rfl,[.agg xs,v],?_,hR⟩;simp only[JC,hb.eq,cond_false,hl.eq,hb2.eq,hl2.eq];rw[hld,List.drop_zero,List.take_of_length_le aJ];rfl
section
variable {P:Program} {n:Nat} {ops:Array Oper} {ex:List Nat} {Q:KF→AHeap→Prop} {k:Nat} {os:List Oper} {K:KF} {h:AHeap} {d:Nat} {ty:TypeId} {pos:String} {after:Array Edge}
theorem KOps.subN {t t' : TypeId} {x y : Operand} {kd : IntKind} {a b : Int} (i j : Nat) [hx : EvK h.globs n K x (.int kd a)] [hy : EvK h.globs n K y (.int kd b)] (ha : a = (i : Int)) (hb : b = (j : Int)) (hle : j ≤ i) (hi : i < Qx kd) (hk : KOps P n ops ex Q (k + 1) os ((d, .int kd ((i - j : Nat) : Int)) :: K) h) :
    KOps P n ops ex Q k (⟨some d,.binOp .sub t x y t',ty,pos,after,none⟩::os) K h:=by
 subst ha hb;refine K8 (.inr (.inr rfl)) ?_ hk;simp only[Xi];rw[show(i:Int) - (j:Int)=((i - j:Nat):Int) by omega,UL (fM (Nat.sub_le ..) hi)]
theorem KOps.mulN {t t' : TypeId} {x y : Operand} {kd : IntKind} {a b : Int} (i j : Nat) [hx : EvK h.globs n K x (.int kd a)] [hy : EvK h.globs n K y (.int kd b)] (ha : a = (i : Int)) (hb : b = (j : Int)) (hi : i * j < Qx kd) (hk : KOps P n ops ex Q (k + 1) os ((d, .int kd ((i * j : Nat) : Int)) :: K) h) :
    KOps P n ops ex Q k (⟨some d,.binOp .mul t x y t',ty,pos,after,none⟩::os) K h:=by
 subst ha hb;refine K8 (.inr (.inr rfl)) ?_ hk;simp only[Xi];rw[show(i:Int)*(j:Int)=((i*j:Nat):Int) from(Int.natCast_mul ..).symm,UL hi]
end
end Go.Am
