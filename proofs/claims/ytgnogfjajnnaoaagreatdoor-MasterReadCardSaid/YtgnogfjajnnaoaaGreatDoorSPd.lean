/-
  The abstract machine: maps from which entries may be deleted.
  Conditions: none.
-/
import Derived.Test.YtgnogfjajnnaoaaGreatDoorAmU
import Derived.Test.YtgnogfjajnnaoaaGreatDoorProg
import Derived.Test.YtgnogfjajnnaoaaGreatDoorAmC
import Derived.Test.YtgnogfjajnnaoaaGreatDoorAmM
open Bool renaming false_eq_true → dC, eq_iff_iff → gE, not_false → gB, and_false → gC
open Classical renaming byContradiction → dG
open Go.Builtin renaming delete_ → fA, len_ → fQ, clear_ → gU
open Go.Instr renaming mapUpdate → dZ, lookup → fP
open Go.MapKept renaming run_getObj_map → dD, run_setObj_map → dK
open Go.Result renaming andThen_ok → dE
open Go.Sem renaming run_bind → dU, run_pure → dH
open Int renaming le_refl → dP, toNat_natCast → fU
open List renaming getElem?_eq_getElem → dI, getD_eq_getElem?_getD → dO, getElem?_eq_some_iff → dF, range → dL, map_cons → dM, mem_range → dQ, length_map → dR, getElem?_cons_zero → dS, getElem?_cons_succ → dT, getElem?_toArray → dW, getElem?_eq_none → dX, mem_of_getElem? → fE, getElem?_set → fI, getElem?_map → fO, extract_eq_take_drop → fY, mem_map → fB, nodup_cons → fC, foldl_cons → fD, getElem?_eraseIdx → fG, length_singleton → fJ, length_eraseIdx → fK, mem_cons_of_mem → fL, mem_cons → fM, append_assoc → fR, length_range → fS, take_length → fV, getElem_mem → fW, length_take → fX, length_set → gI, drop_zero → gY
open Nat renaming le_refl → dY, lt_succ_iff_lt_or_eq → dJ, testBit_lt_two_pow → fH, lt_succ_self → fZ, strongRecOn → gO
open Option renaming map_some → dN, map_eq_some_iff → fF, bind_eq_bind → fN, bind_some → fT, map_none → gA
open Option.some renaming injEq → dV
set_option maxRecDepth 99999
set_option maxHeartbeats 4000000
namespace Go.Am
theorem Wc {P:Program} {ρ:Operand→AV} {o:Oper} {h:AHeap} {t:TypeId} (ho:o.op = .makeMap t none):StepS P ρ o h (.mp h.next) (h.allocT (.dmap [])):=by
 refine⟨HGrow.allocT _ _,?_⟩;intro φ a w K Q hfr r _ hk;have hφ : φ h.next=none:=hfr h.next (dY _) ax;obtain⟨r',tr⟩:=r.allocT hφ (.dmap []) (.map #[] 0) (fun φ' w' _ hw=>⟨#[],0,hw,rfl,by simp⟩);have hrun:(execOp a.eval o).run P w = .ok (.value (.map (some w.heap.size))) (w.alloc (.map #[] 0)):=by
  simp[execOp,ho,Instr.makeMap]
 exact wp_of_run hrun (hk _ _ _ tr r' (.mp _ _ _ _ (Emb.upd_same _ _ _)))
def Ja (h : AHeap) : AV → Option (List (AV × AV))
  | .nilm=>some []
  | .mp b=>match h.get b with
    | some (.obj _ (.dmap es))=>some es
    | _=>none
  | _=>none
def JQ (P:Program) (h:AHeap) (t:TypeId) (x key:AV) (ok:Bool):Option AV:=
  match Z7 P t,Ja h x with
  | some (kt,et),some es=>if Zj P kt key=true then
      match Q8 P kt key es,Qr P et with
      | some r,some z=>some (match r with
        | some (_,v)=>if ok then .tup [v,.bool true] else v
        | none=>if ok then .tup [z,.bool false] else z)
      | _,_=>none
    else none
  | _,_=>none
theorem WO {P:Program} {ρ:Operand→AV} {o:Oper} {h:AHeap} {t:TypeId} {x ix:Operand} {ok:Bool} {v:AV} (ho:o.op = .lookup t x ix ok) (hs:JQ P h t (ρ x) (ρ ix) ok=some v):ReadS P ρ o h v:=by
 intro φ w ev r hops;unfold JQ at hs;split at hs
 ·rename_i kt et es hm hes;split at hs
  ·rename_i hkey;split at hs
   ·rename_i fr z hf hz;simp only[dV] at hs;subst hs;have hx:=hops x aU;have hi:=hops ix aU;obtain⟨i,zv,hzi,hzv,hzr⟩:=Qx hz;have hzrun:(zeroValue et).run P w = .ok zv w:=by simp[zeroValue,typeInfo,hzi,hzv]
    have hu:=ZK hm
    obtain ⟨ms, hlen, hrel, hget⟩ : ∃ ms : Array MapEntry, es.length = ms.toList.length ∧ (∀ (j : Nat) y m, es[j]? = some y → ms.toList[j]? = some m → VRel φ y.1 m.key ∧ VRel φ y.2 m.val) ∧
        ((ev x = .map none∧ms = #[])∨∃ k n,ev x = .map (some k)∧w.heap[k]? = some (.map ms n)):=by
      unfold Ja at hes;split at hes
      · rename_i hρ;cases hes;rw[hρ] at hx;generalize hq:ev x=q at hx;cases hx;exact⟨#[],rfl,by simp,.inl ⟨rfl,rfl⟩⟩
      · rename_i b hρ;rw[hρ] at hx;generalize hq:ev x=q at hx;cases hx;rename_i k i' z' hφ;split at hes
        · rename_i F es' hg;cases hes;obtain⟨ms,n,h1,h2,h3⟩:=r.blk b k i' z' _ hφ hg aZ;exact⟨ms,by simpa using h2,fun j y m hy hm=>h3 j y m hy ar,.inr ⟨k,n,rfl,h1⟩⟩
        · cases hes
      · cases hes
    obtain⟨cr,h1,h2,h3⟩:=Xm (P:=P) hkey hi w es ms.toList fr hlen hrel hf;have hck:=Z3 (P:=P) hkey hi ms.isEmpty w;have hrun:∀ (c:Value) (b:Bool),(match cr with|some (_,v)=>(v,true)|none=>(zv,false))=(c,b)→(fP t (ev x) (ev ix) ok).run P w = .ok (if ok then .tuple #[c,.bool b] else c) w:=by
     intro c b hcb;rcases hget with ⟨hq,rfl⟩|⟨k,n,hq,hw⟩
     ·have hcr:cr=none:=by
       cases cr with
       | none=>rfl
       | some p=>
        cases fr with
        | none=>exact h2 rfl
        | some p'=>obtain⟨_,_,_,_,h4,_⟩:=h3 p'.1 p'.2 rfl; simp at h4
      subst hcr;cases hcb;simp only[fP,dU,run_underlying hu,dE,hq,dH,hck,h1,hzrun]
     ·simp only[fP,dU,run_underlying hu,dE,hq,dD hw,dH,hck,h1]
      cases cr with
      | none=>cases hcb; simp only[dU,hzrun,dE,dH]
      | some p=>obtain⟨p1,p2⟩:=p; cases hcb; simp only[dU,dH,dE]
    cases fr with
    | none=>
     have hcr:=h2 rfl;subst hcr;have hrun:=hrun zv false rfl;have hop:(execOp ev o).run P w = .ok (.value (if ok then .tuple #[zv,.bool false] else zv)) w:=by simp only[execOp,ho,dU,hrun,dE,dH]
     refine⟨_,hop,?_⟩
     cases ok with
     | true=>exact YF (hzr φ) false
     | false=>exact hzr φ
    | some p=>
     obtain⟨i',v'⟩:=p;obtain⟨cv,m,rfl,h5,_,_,_⟩:=h3 i' v' rfl;have hrun:=hrun cv true rfl;have hop:(execOp ev o).run P w = .ok (.value (if ok then .tuple #[cv,.bool true] else cv)) w:=by simp only[execOp,ho,dU,hrun,dE,dH]
     refine⟨_,hop,?_⟩
     cases ok with
     | true=>exact YF h5 true
     | false=>exact h5
   cases hs
  cases hs
 cases hs
def aputD (P:Program) (h:AHeap) (t:TypeId) (x key val:AV):Option AHeap:=
  match Z7 P t,x with
  | some (kt,_),.mp b=>match h.get b with
    | some (.obj F (.dmap es))=>if Zj P kt key=true then
        (Q8 P kt key es).map fun r=>h.set b (.obj F (.dmap (match r with|some (i,_)=>es.set i (key,val)|none=>es ++ [(key,val)])))
      else none
    | _=>none
  | _,_=>none
theorem J7 {P:Program} {ρ:Operand→AV} {o:Oper} {h h':AHeap} {t:TypeId} {x ix y:Operand} (ho:o.op = .mapUpdate t x ix y) (hs:aputD P h t (ρ x) (ρ ix) (ρ y)=some h'):StepS P ρ o h (.tup []) h':=by
 unfold aputD at hs;split at hs
 ·rename_i kt et b hm hρ;split at hs
  ·rename_i F es hg;split at hs
   ·rename_i hkey;simp only[fF] at hs;obtain⟨fr,hf,rfl⟩:=hs;refine⟨HGrow.setT hg,?_⟩;intro φ a w K Q hfr r hops hk;have hx:=hops x aU;have hi:=hops ix aU;have hy:=hops y aU;have hu:=ZK hm;rw[hρ] at hx;generalize hq:a.eval x=q at hx;cases hx;rename_i k i' z' hφ;obtain⟨ms,cl,h1,h2,h3⟩:=r.blk b k i' z' _ hφ hg aZ;obtain⟨cr,g1,g2,g3⟩:=Xm (P:=P) hkey hi w es ms.toList fr bK (fun j y m hy hm=>h3 j y m hy ar) hf;have hck:=Z3 (P:=P) hkey hi false w;have hst:=VS (P:=P) hkey hi w
    cases fr with
    | none=>
     have hcr:=g2 rfl;subst hcr;have hrun:(dZ t (a.eval x) (a.eval ix) (a.eval y)).run P w = .ok () (QR w k (.map (ms.push {key:=a.eval ix,val:=a.eval y,born:=cl}) (cl+1))):=by
      simp only[dZ,dU,run_underlying hu,dE,hq,dD h1,hck,g1,dK _ h1];rfl
     have hop:(execOp a.eval o).run P w = .ok .skip (QR w k (.map (ms.push {key:=a.eval ix,val:=a.eval y,born:=cl}) (cl+1))):=by simp only[execOp,ho,dU,hrun,dE,dH]
     obtain⟨r',tr⟩:=r.setT hφ hg (.dmap (es ++ [(ρ ix,ρ y)])) (.map (ms.push {key:=a.eval ix,val:=a.eval y,born:=cl}) (cl+1)) (by
      intro w' hw';refine⟨ms.push {key:=a.eval ix,val:=a.eval y,born:=cl},cl+1,hw',by simp[h2],?_⟩;intro j p m hp hm;rw[List.getElem?_append] at hp;rw[Array.getElem?_push] at hm;split at hp;rename_i hj;rw[if_neg aA] at hm;exact h3 j p m hp hm;rename_i hj;have hj0:j=ms.size:=by
       have:=(dF.1 hp).1;simp at this; omega
      rw[if_pos hj0] at hm;cases hm;rw[show j - es.length=0 by omega] at hp;cases hp;exact⟨hi,hy⟩)
     exact XK hop (hk φ _ _ tr r' (VRel.undef φ))
    | some p=>
     obtain⟨i,v⟩:=p;obtain⟨cv,m,rfl,g5,g6,g7,g8⟩:=g3 i v rfl;have hmi:ms[i]? = some m:=by simpa using g6
     have hrun:(dZ t (a.eval x) (a.eval ix) (a.eval y)).run P w = .ok () (QR w k (.map (ms.modify i fun e=>{e with key:=a.eval ix,val:=a.eval y}) cl)):=by
      simp only[dZ,dU,run_underlying hu,dE,hq,dD h1,hck,g1,hmi,dN,Option.getD_some,g7,hst,dK _ h1];rfl
     have hop:(execOp a.eval o).run P w = .ok .skip (QR w k (.map (ms.modify i fun e=>{e with key:=a.eval ix,val:=a.eval y}) cl)):=by simp only[execOp,ho,dU,hrun,dE,dH]
     obtain⟨r',tr⟩:=r.setT hφ hg (.dmap (es.set i (ρ ix,ρ y))) (.map (ms.modify i fun e=>{e with key:=a.eval ix,val:=a.eval y}) cl) (by
      intro w' hw';refine⟨ms.modify i fun e=>{e with key:=a.eval ix,val:=a.eval y},cl,hw',by simp[h2],?_⟩;intro j p m' hp hm;rw[fI] at hp;rw[Array.getElem?_modify] at hm;by_cases hij:i=j;subst hij;rw[if_pos rfl] at hp hm;rw[hmi] at hm;cases hm;split at hp;cases hp;exact⟨hi,hy⟩;cases hp;rw[if_neg hij] at hp hm;exact h3 j p m' hp hm)
     exact XK hop (hk φ _ _ tr r' (VRel.undef φ))
   cases hs
  cases hs
 cases hs
theorem WQ {P : Program} {ρ : Operand → AV} {o : Oper} {h : AHeap} {t : TypeId} {p : TypeId × TypeId} {x : Operand} {es : List (AV × AV)} (ho : o.op = .call { callee := .builtin .len, args := #[x], argTypes := #[t] })
    (hm:Z7 P t=some p) (hs:Ja h (ρ x)=some es):StepS P ρ o h (.int .i64 es.length) h:=by
 refine⟨HGrow.refl _,?_⟩;intro φ a w K Q hfr r hops hk;have hx:=hops x aa;have hu:=ZK hm;have hrun:(fQ #[t] o.type #[a.eval x]).run P w = .ok (.int .i64 es.length) w:=by
  unfold Ja at hs;split at hs;rename_i hρ;cases hs;rw[hρ] at hx;generalize hq:a.eval x=q at hx;cases hx;simp[fQ,run_underlying hu,goInt];rename_i b hρ;rw[hρ] at hx;generalize hq:a.eval x=q at hx;cases hx;rename_i k i' z' hφ;split at hs;rename_i F es' hg;cases hs;obtain⟨ms,n,h1,h2,h3⟩:=r.blk b k i' z' _ hφ hg aZ;simp[fQ,run_underlying hu,goInt,dD h1,h2];cases hs;cases hs
 have hop:(execOp a.eval o).run P w = .ok (.value (.int .i64 es.length)) w:=by
  simp[execOp,ho,resolve,invoke,builtin,hrun]
 exact wp_of_run hop (hk φ _ w (Trans.refl _ _ _) r (.int _ _))
def J0 (es : List (AV × AV)) : Option (Nat × AV) → List (AV × AV)
  | some (i,_)=>es.eraseIdx i
  | none=>es
theorem Uy {P : Program} {ρ : Operand → AV} {o : Oper} {h : AHeap} {t t' : TypeId} {p : TypeId × TypeId} {x ix : Operand} {b F : Nat} {es : List (AV × AV)} {fr : Option (Nat × AV)} (ho : o.op = .call { callee := .builtin .delete, args := #[x, ix], argTypes := #[t, t'] })
    (hm:Z7 P t=some p) (hρ : ρ x = .mp b) (hg:h.get b=some (.obj F (.dmap es))) (hkey:Zj P p.1 (ρ ix)=true) (hf:Q8 P p.1 (ρ ix) es=some fr) :
    StepS P ρ o h (.tup []) (h.set b (.obj F (.dmap (J0 es fr)))):=by
 refine⟨HGrow.setT hg,?_⟩;intro φ a w K Q hfr r hops hk;have hx:=hops x aa;have hi:=hops ix aa;have hu:=ZK hm;rw[hρ] at hx;generalize hq:a.eval x=q at hx;cases hx;rename_i k i' z' hφ;obtain⟨ms,cl,h1,h2,h3⟩:=r.blk b k i' z' _ hφ hg aZ;obtain⟨cr,g1,g2,g3⟩:=Xm (P:=P) hkey hi w es ms.toList fr bK (fun j y m hy hm=>h3 j y m hy ar) hf;have hck:=Z3 (P:=P) hkey hi ms.isEmpty w
 cases fr with
 | none=>
  have hcr:=g2 rfl;subst hcr;have hrun:(fA #[t,t'] o.type #[a.eval x,a.eval ix]).run P w = .ok (.tuple #[]) (QR w k (.map ms cl)):=by
   simp only[fA,dU,run_underlying hu,dE,dW,dS,dT,hq,dD h1,hck,g1,dK _ h1];rfl
  have hop:(execOp a.eval o).run P w = .ok (.value (.tuple #[])) (QR w k (.map ms cl)):=by
   simp[execOp,ho,resolve,invoke,builtin,hrun]
  obtain⟨r',tr⟩:=r.setT hφ hg (.dmap es) (.map ms cl) (fun w' hw'=>⟨ms,cl,hw',h2,h3⟩);exact wp_of_run hop (hk φ _ _ tr r' (VRel.undef φ))
 | some p=>
  obtain⟨i,v⟩:=p;obtain⟨cv,m,rfl,g5,g6,g7,g8⟩:=g3 i v rfl;have hrun:(fA #[t,t'] o.type #[a.eval x,a.eval ix]).run P w = .ok (.tuple #[]) (QR w k (.map (ms.eraseIdxIfInBounds i) cl)):=by
   simp only[fA,dU,run_underlying hu,dE,dW,dS,dT,hq,dD h1,hck,g1,dK _ h1];rfl
  have hop:(execOp a.eval o).run P w = .ok (.value (.tuple #[])) (QR w k (.map (ms.eraseIdxIfInBounds i) cl)):=by
   simp[execOp,ho,resolve,invoke,builtin,hrun]
  obtain⟨r',tr⟩:=r.setT hφ hg (.dmap (es.eraseIdx i)) (.map (ms.eraseIdxIfInBounds i) cl) (by
   intro w' hw';have hlt:i<ms.toList.length:=(dF.1 g6).1;have hlt':i<ms.size:=by simpa using hlt
   have htl:(ms.eraseIdxIfInBounds i).toList=ms.toList.eraseIdx i:=by
    unfold Array.eraseIdxIfInBounds;rw[dif_pos hlt'];exact Array.toList_eraseIdx
   have hsz:(ms.eraseIdxIfInBounds i).size=ms.size - 1:=by
    rw[←Array.length_toList,htl,fK,if_pos hlt];simp
   refine⟨ms.eraseIdxIfInBounds i,cl,hw',?_,?_⟩;rw[hsz,fK,if_pos aA,h2];intro j y m' hy hm;rw[←Array.getElem?_toList,htl,fG] at hm;rw[fG] at hy;split at hy;rename_i hj; rw[if_pos hj] at hm; exact h3 j y m' hy ar;rename_i hj; rw[if_neg hj] at hm; exact h3 (j+1) y m' hy ar)
  exact wp_of_run hop (hk φ _ _ tr r' (VRel.undef φ))
theorem We {P : Program} {ρ : Operand → AV} {o : Oper} {h : AHeap} {t : TypeId} {p : TypeId × TypeId} {x : Operand} {b F : Nat} {es : List (AV × AV)} (ho : o.op = .call { callee := .builtin .clear, args := #[x], argTypes := #[t] })
    (hm:Z7 P t=some p) (hρ : ρ x = .mp b) (hg:h.get b=some (.obj F (.dmap es))):StepS P ρ o h (.tup []) (h.set b (.obj F (.dmap []))):=by
 refine⟨HGrow.setT hg,?_⟩;intro φ a w K Q hfr r hops hk;have hx:=hops x aa;have hu:=ZK hm;rw[hρ] at hx;generalize hq:a.eval x=q at hx;cases hx;rename_i k i' z' hφ;obtain⟨ms,cl,h1,h2,h3⟩:=r.blk b k i' z' _ hφ hg aZ;have hrun:(gU #[t] o.type #[a.eval x]).run P w = .ok (.tuple #[]) (QR w k (.map #[] cl)):=by
  simp only[gU,dU,run_underlying hu,dE,dW,dS,dT,hq,dD h1,dK _ h1];rfl
 have hop:(execOp a.eval o).run P w = .ok (.value (.tuple #[])) (QR w k (.map #[] cl)):=by
  simp[execOp,ho,resolve,invoke,builtin,hrun]
 obtain⟨r',tr⟩:=r.setT hφ hg (.dmap []) (.map #[] cl) (fun w' hw'=>⟨#[],cl,hw',rfl,by simp⟩);exact wp_of_run hop (hk φ _ _ tr r' (VRel.undef φ))
abbrev dmapO (v:AV) (es:List (AV × AV)):Obj:=⟨v,0,Thing.enc (.dmap es),false⟩
def RdD (h:AHeap) (v:AV) (es:List (AV × AV)):Prop:=∃ b F,v = .mp b∧h.get b=some (.obj F (.dmap es))
theorem RdD.ext {h0 h:AHeap} (k:Keeps h0 h) {v:AV} {es:List (AV × AV)} (hr:RdD h0 v es):RdD h v es:=let⟨b,F,hv,hg⟩:=hr; ⟨b,F,hv,k.get_some hg⟩
theorem WE {es es':List (AV × AV)} (h:Thing.enc (.dmap es)=Thing.enc (.dmap es')):es=es':=by
 simp only[Thing.enc,List.cons.injEq,true_and] at h;exact Jn h
theorem Mu.dmap {lo:Nat} {h:AHeap} {F:Option Nat} {v:AV} {es:List (AV × AV)} (hv:ZR v) (hm:Mu lo h F (dmapO v es)):∃ b G f,F=some G∧lo≤b∧v = .mp b∧h.get b=some (.obj G (.dmap es))∧h.fam G=some f:=by
 obtain⟨b0,rfl⟩:=hv
 cases F with
 | none=>cases hm.1
 | some G=>
  rcases hm with ⟨b,off,p,cs,f,_,hw,_⟩|⟨b,x,f,h1,h2,h3,h4,h5,h6⟩
  rcases hw with ⟨_,_,hw,_⟩|⟨_,hw⟩ <;> cases hw
  ·cases x with
   | walk s pos=>cases h2
   | mwalk _ _ _=>cases h2
   | gone=>cases h2
   | map es'=>cases es' <;> simp[Thing.enc] at h6
   | dmap es'=>
    simp only[Thing.at,AV.mp.injEq] at h2;subst h2;have:=WE h6;subst this;exact⟨b0,G,f,rfl,h1,rfl,h4,h5⟩
theorem St.rdD {h0 h:AHeap} {objs:List Obj} (st:St h0 h objs) (k:Nat) {v:AV} {es:List (AV × AV)} (hk:objs[k]? = some (dmapO v es)) (hv:ZR v):RdD h v es:=by
 obtain⟨_,fs,h1,h2,_⟩:=st;have hlt:k<fs.length:=by rw[h1]; exact(dF.1 hk).1
 obtain⟨b,G,f,_,_,h3,h4,_⟩:=(h2 k _ _ hk (dI hlt)).dmap hv;exact⟨b,G,h3,h4⟩
theorem RdD.ents {h:AHeap} {v:AV} {es:List (AV × AV)} (hr:RdD h v es):Ja h v=some es:=by
 obtain⟨b,F,rfl,hg⟩:=hr;simp only[Ja,hg]
theorem St.setD {h0 h:AHeap} {objs:List Obj} (st:St h0 h objs) {i b G:Nat} {es es':List (AV × AV)} (hk:objs[i]? = some (dmapO (.mp b) es)) (hg:h.get b=some (.obj G (.dmap es))):St h0 (h.set b (.obj G (.dmap es'))) (objs.set i (dmapO (.mp b) es')):=by
 refine St.setT (x:=.dmap es) (x':=.dmap es') st hk (fun _=>rfl) rfl hg ?_;intro F hm;obtain⟨b',G',f,hF,hlo,hb',hg',hf⟩:=hm.dmap ⟨b,rfl⟩;cases hb';rw[hg] at hg'; cases hg';exact⟨hF,hlo,f,hf⟩
section maps
variable {κ ν:Type} [DecidableEq κ]
def Vd : List (κ × ν) → κ → List (κ × ν)
  | [],_=>[]
  | p::l,a=>if a=p.1 then l else p::Vd l a
theorem mdel_ent {P : Program} {kt : TypeId} {kf : κ → AV} {vf : ν → AV} [hk : KeyT P kt kf] (l : List (κ × ν)) (a : κ) :
    ∃ r,Q8 P kt (kf a) (entL kf vf l)=some r∧J0 (entL kf vf l) r=entL kf vf (Vd l a):=by
 induction l with
 | nil=>exact⟨none,rfl,rfl⟩
 | cons p l ih=>
  obtain⟨r,h1,h3⟩:=ih;by_cases h:a=p.1;refine⟨some (0,vf p.2),?_,?_⟩;simp only[entL,dM,Q8,hk.eq,h,decide_true];simp[Vd,h,J0]
  ·refine⟨r.map fun q=>(q.1+1,q.2),?_,?_⟩;have h1':Q8 P kt (kf a) (List.map (fun p=>(kf p.1,vf p.2)) l)=some r:=h1;simp only[entL,dM,Q8,hk.eq,h,decide_false,h1',dN]
   ·simp only[Vd,if_neg h]
    cases r with
    | none=>simp only[gA,J0] at h3⊢; simp only[entL,dM] at h3⊢; rw[←h3]
    | some q=>simp only[dN,J0] at h3⊢; simp only[entL,dM,List.eraseIdx_cons_succ] at h3⊢; rw[h3]
variable {P:Program} {n:Nat} {ops:Array Oper} {ex:List Nat} {Q:KF→AHeap→Prop} {k:Nat} {os:List Oper} {K:KF} {h h0:AHeap} {d:Nat} {ty:TypeId} {pos:String} {after:Array Edge} {objs:List Obj}
theorem KOps.makeMapD {t:TypeId} (st:St h0 h objs) (hex:ex.contains k=false) (hk:∀ v h',ZR v→St h0 h' (dmapO v []::objs)→KOps P n ops ex Q (k+1) os ((d,v)::K) h'):KOps P n ops ex Q k (⟨some d,.makeMap t none,ty,pos,after,none⟩::os) K h:=
  KOps.chainS rfl hex (Wc rfl) (hk _ _ ⟨_,rfl⟩ (St.allocT st (.dmap [])))
theorem RdD.look {t kt : TypeId} {z : AV} {kf : κ → AV} {vf : ν → AV} {l : List (κ × ν)} {v : AV} [ht : MpT P t kt z] [hkt : KeyT P kt kf] (hr : RdD h v (entL kf vf l)) (a : κ) (ok : Bool) :
    JQ P h t v (kf a) ok=some (match OB l a with|some w=>if ok then .tup [vf w,.bool true] else vf w|none=>if ok then .tup [z,.bool false] else z):=by
 obtain⟨et,h1,h2⟩:=ht.mp;obtain⟨r,h3,h4,-⟩:=XW (P:=P) (kt:=kt) (kf:=kf) (vf:=vf) l a;simp only[JQ,h1,hr.ents,hkt.ok,if_true,h3,h2]
 cases r with
 | none=>
  cases hm:OB l a with
  | none=>rfl
  | some w=>rw[hm] at h4; cases h4
 | some q=>
  cases hm:OB l a with
  | none=>rw[hm] at h4; cases h4
  | some w=>rw[hm] at h4; simp only[dN,dV] at h4; obtain⟨q1,q2⟩:=q; simp only at h4; subst h4; rfl
theorem KOps.lookD {t kt : TypeId} {z : AV} {kf : κ → AV} {vf : ν → AV} {l : List (κ × ν)} {v : AV} {x ix : Operand} {a : κ} [hx : EvK h.globs n K x v] (hi : Kz h.globs n K ix = kf a) [ht : MpT P t kt z] [hkt : KeyT P kt kf] (hr : RdD h v (entL kf vf l))
    (hk:KOps P n ops ex Q (k+1) os ((d,match OB l a with|some w=>vf w|none=>z)::K) h):KOps P n ops ex Q k (⟨some d,.lookup t x ix false,ty,pos,after,none⟩::os) K h:=by
 refine KOps.readS rfl (WO rfl ?_) hk;rw[hx.eq,hi,hr.look]
 cases OB l a <;> rfl
theorem KOps.lookDS {t kt : TypeId} {z : AV} {kf : κ → AV} {vf : ν → AV} {l : List (κ × ν)} {v : AV} {x ix : Operand} {a : κ} {w : ν} [hx : EvK h.globs n K x v] (hi : Kz h.globs n K ix = kf a) [ht : MpT P t kt z] [hkt : KeyT P kt kf] (hr : RdD h v (entL kf vf l)) (hm : OB l a = some w)
    (hk:KOps P n ops ex Q (k+1) os ((d,vf w)::K) h):KOps P n ops ex Q k (⟨some d,.lookup t x ix false,ty,pos,after,none⟩::os) K h:=by
 refine KOps.lookD hi hr ?_;rw[hm]; exact hk
theorem KOps.lookDN {t kt : TypeId} {z : AV} {kf : κ → AV} {vf : ν → AV} {l : List (κ × ν)} {v : AV} {x ix : Operand} {a : κ} [hx : EvK h.globs n K x v] (hi : Kz h.globs n K ix = kf a) [ht : MpT P t kt z] [hkt : KeyT P kt kf] (hr : RdD h v (entL kf vf l)) (hm : OB l a = none)
    (hk:KOps P n ops ex Q (k+1) os ((d,z)::K) h):KOps P n ops ex Q k (⟨some d,.lookup t x ix false,ty,pos,after,none⟩::os) K h:=by
 refine KOps.lookD hi hr ?_;rw[hm]; exact hk
theorem KOps.putD {t kt : TypeId} {z : AV} {kf : κ → AV} {vf : ν → AV} {l : List (κ × ν)} {v u : AV} {x ix y : Operand} {a : κ} {b : ν} {i : Nat} [hx : EvK h.globs n K x v] (hi : Kz h.globs n K ix = kf a) [hy : EvK h.globs n K y u] (hu : u = vf b) [ht : MpT P t kt z] [hkt : KeyT P kt kf]
    (st:St h0 h objs) (hv:ZR v) (hk':objs[i]? = some (dmapO v (entL kf vf l))) (hex:ex.contains k=false)
    (hk:∀ h',St h0 h' (objs.set i (dmapO v (entL kf vf (Qo l a b))))→KOps P n ops ex Q (k+1) os K h'):KOps P n ops ex Q k (⟨none,.mapUpdate t x ix y,ty,pos,after,none⟩::os) K h:=by
 obtain⟨bb,G,rfl,hg⟩:=St.rdD st i hk' hv;obtain⟨et,h1,h2⟩:=ht.mp;obtain⟨r,h3,-,h4⟩:=XW (P:=P) (kt:=kt) (kf:=kf) (vf:=vf) l a;have hput:aputD P h t (.mp bb) (kf a) (vf b)=some (h.set bb (.obj G (.dmap (entL kf vf (Qo l a b))))):=by
  simp only[aputD,h1,hg,hkt.ok,if_true,h3,dN];have h5:=h4 b
  cases r with
  | none=>simp only at h5⊢; rw[h5]
  | some q=>simp only at h5⊢; rw[h5]
 refine QX (v:=.tup []) (h':=h.set bb (.obj G (.dmap (entL kf vf (Qo l a b))))) rfl hex (J7 rfl ?_) (hk _ (St.setD st hk' hg));rw[hx.eq,hi,hy.eq,hu]; exact hput
theorem KOps.lenD {t kt : TypeId} {z : AV} {es : List (AV × AV)} {v : AV} {x : Operand} [hx : EvK h.globs n K x v] [ht : MpT P t kt z] (hr : RdD h v es) (hk : KOps P n ops TXT Q (k + 1) os ((d, .int .i64 es.length) :: K) h) (hlt : Nat.beq k 1000000 = false := by rfl) :
    KOps P n ops TXT Q k (⟨some d,.call {callee:=.builtin .len,args:=#[x],argTypes:=#[t]},ty,pos,after,none⟩::os) K h:=by
 obtain⟨et,h1,h2⟩:=ht.mp;exact Zo (WQ rfl h1 (by rw[hx.eq]; exact hr.ents)) hk hlt
theorem KOps.delD0 {t t' kt : TypeId} {z : AV} {kf : κ → AV} {vf : ν → AV} {l : List (κ × ν)} {v : AV} {x ix : Operand} {a : κ} {i : Nat} [hx : EvK h.globs n K x v] (hi : Kz h.globs n K ix = kf a) [ht : MpT P t kt z] [hkt : KeyT P kt kf]
    (st:St h0 h objs) (hv:ZR v) (hk':objs[i]? = some (dmapO v (entL kf vf l))) (hex:ex.contains k=false)
    (hk:∀ h',St h0 h' (objs.set i (dmapO v (entL kf vf (Vd l a))))→KOps P n ops ex Q (k+1) os K h'):KOps P n ops ex Q k (⟨none,.call {callee:=.builtin .delete,args:=#[x,ix],argTypes:=#[t,t']},ty,pos,after,none⟩::os) K h:=by
 obtain⟨bb,G,rfl,hg⟩:=St.rdD st i hk' hv;obtain⟨et,h1,h2⟩:=ht.mp;obtain⟨r,h3,h4⟩:=mdel_ent (P:=P) (kt:=kt) (kf:=kf) (vf:=vf) l a;refine QX rfl hex (Uy (p:=(kt,et)) rfl h1 hx.eq hg (by rw[hi]; exact hkt.ok a) (by rw[hi]; exact h3)) (hk _ ?_);rw[h4];exact St.setD st hk' hg
theorem KOps.clearD0 {t kt : TypeId} {z : AV} {es : List (AV × AV)} {v : AV} {x : Operand} {i : Nat} [hx : EvK h.globs n K x v] [ht : MpT P t kt z]
    (st:St h0 h objs) (hv:ZR v) (hk':objs[i]? = some (dmapO v es)) (hex:ex.contains k=false)
    (hk:∀ h',St h0 h' (objs.set i (dmapO v []))→KOps P n ops ex Q (k+1) os K h'):KOps P n ops ex Q k (⟨none,.call {callee:=.builtin .clear,args:=#[x],argTypes:=#[t]},ty,pos,after,none⟩::os) K h:=by
 obtain⟨bb,G,rfl,hg⟩:=St.rdD st i hk' hv;obtain⟨et,h1,h2⟩:=ht.mp;exact QX rfl hex (We (p:=(kt,et)) rfl h1 hx.eq hg) (hk _ (St.setD st hk' hg))
end maps
end Go.Am
namespace Go.Am
theorem Ev.stepI {P : Program} {ρ : Operand → AV} {o : Oper} {h h' : AHeap} {f : FuncId} {t : TypeId} {x r : AV} {recv : Operand} {name : String} {args : Array Operand} {tys : Array TypeId}
    (ho:o.op = .call {callee:=.invoke recv name,args:=args,argTypes:=tys}) (hg : ρ recv = .ifc t x) (hm:XR P t name=some f) (hev:Ev P f (x::args.toList.map ρ) h r h'):SemStep P ρ o h r h':=by
 have hc:clsOf o.op = .chain:=by rw[ho]; rfl
 unfold SemStep;rw[hc];obtain⟨⟨fn,hf,hn,hb⟩,hgrow,hcalls⟩:=hev;refine⟨hgrow,?_⟩;intro φ a w K Q hfr rr hops hk;have hgv:=hops recv aa;rw[hg] at hgv;generalize hgc:a.eval recv=cg at hgv
 cases hgv with|ifc _ _ v hv=>
 have hmr:=methA_run hm v w;have hrun:(execOp a.eval o).run P w = .ok (.enter f ((v::args.toList.map a.eval).toArray)) w:=by
  have he:(#[a.eval recv] ++ args.map a.eval).extract 1 (#[a.eval recv] ++ args.map a.eval).size=args.map a.eval:=by
   apply Array.ext';simp only[Array.toList_extract,Array.toList_append,Array.toList_map,fY,List.cons_append,List.nil_append,List.drop_succ_cons,gY,Array.size_append,Array.size_map];refine List.take_of_length_le ?_;simp
  have h0:(#[a.eval recv] ++ args.map a.eval)[0]? = some (.iface t v):=by
   rw[hgc,Array.getElem?_append_left Nat.zero_lt_one];rfl
  have hcm:(callMethod (.iface t v) name (args.map a.eval)).run P w = .ok (.enter f (#[v] ++ args.map a.eval)) w:=by
   simp only[callMethod,dU,run_program,dE,hmr,callFunc,hf,hn,hb,dC,if_false,dH]
  simp only[execOp,ho,resolve,dU,dH,dE,invoke,he,h0,hcm];congr 2;simp
 unfold Oper.wp;rw[hrun];refine(hcalls φ w _ hfr rr ?_).mono ?_
 ·refine VRels.append (l:=[x]) (cs:=[v]) ⟨rfl,?_⟩ ⟨by simp,?_⟩
  ·intro j y u hy hu
   cases j with
   | zero=>cases hy; cases hu; exact hv
   | succ j=>simp at hy
  intro j y u hy hu;rw[fO,fF] at hy hu;obtain⟨q,hq,rfl⟩:=hy;obtain⟨q',hq',rfl⟩:=hu;rw[hq] at hq'; cases hq';refine hops q ?_;simp[ho,Op.operands,Call.operands];exact .inr (Array.mem_of_getElem? (by simpa using hq))
 rintro e w' ⟨v,φ',rfl,t,r',hv⟩;exact hk φ' v w' t r' hv
section
variable {P:Program} {n:Nat} {ops:Array Oper} {ex:List Nat} {Q:KF→AHeap→Prop} {k:Nat} {os:List Oper} {K:KF} {h:AHeap} {d:Nat} {ty:TypeId} {pos:String} {after:Array Edge}
theorem KOps.callI {f : FuncId} {t : TypeId} {x : AV} {recv : Operand} {name : String} {l : List Operand} {vs : List AV} {tys : Array TypeId} {R : AV → AHeap → Prop} [hg : EvK h.globs n K recv (.ifc t x)] [hl : EvKs h.globs n K l vs] (hx : ex.contains k = false) (hm : XR P t name = some f)
    (hc:ACalls P f (x::vs) h R) (hk:∀ r h',R r h'→KOps P n ops ex Q (k+1) os ((d,r)::K) h'):KOps P n ops ex Q k (⟨some d,.call {callee:=.invoke recv name,args:=List.toArray l,argTypes:=tys},ty,pos,after,none⟩::os) K h:=by
 obtain⟨r,h',hev,hR⟩:=hc;refine Zf (v:=r) (h':=h') ?_ (fun hc=>by rw[hx] at hc; cases hc) (hk r h' hR);refine Ev.stepI (recv:=recv) (args:=List.toArray l) (tys:=tys) rfl hg.eq hm ?_;rw[List.toList_toArray,hl.eq];exact hev
instance instNili (globs:List Nat) (n:Nat) (K:KF):EvK globs n K (.const .nilIface) .nili:=⟨rfl⟩
theorem Ku {t:TypeId} {x:Operand} {v:AV} [hx:EvK h.globs n K x v] (hc:concA P t=true) (hk:KOps P n ops ex Q (k+1) os ((d,.ifc t v)::K) h):KOps P n ops ex Q k (⟨some d,.makeInterface t x,ty,pos,after,none⟩::os) K h:=by
 refine Kl (v:=.ifc t v) rfl ?_ hk;simp only[apure];rw[hx.eq,if_pos hc]
theorem KOps.makeFmeth {x:Operand} {v:AV} {name:String} [hx:EvK h.globs n K x v] (hk:KOps P n ops ex Q (k+1) os ((d,.fmeth name v)::K) h):KOps P n ops ex Q k (⟨some d,.makeFunc (.method name) #[x] #[],ty,pos,after,none⟩::os) K h:=by
 refine Kl (v:=.fmeth name v) rfl ?_ hk;show some (AV.fmeth name (Kz h.globs n K x))=_;rw[hx.eq]
theorem KOps.nilMeth {x:Operand} {name:String} {t:TypeId} {y:AV} [hx:EvK h.globs n K x (.fmeth name (.ifc t y))] (hm:(XR P t name).isSome=true) (hk:KOps P n ops ex Q (k+1) os ((d,.fmeth name (.ifc t y))::K) h):KOps P n ops ex Q k (⟨some d,.nilCheck x,ty,pos,after,none⟩::os) K h:=by
 refine Kl (v:=.fmeth name (.ifc t y)) rfl ?_ hk;simp only[apure];rw[hx.eq];simp only[hm,if_true]
end
end Go.Am
namespace Go.Am
abbrev Str:=List UInt8
def wd (l:Str):ByteArray:=⟨l.toArray⟩
theorem ba_ext {a b:ByteArray} (h:a.data.toList=b.data.toList):a=b:=by
 cases a; cases b
 congr 1;exact Array.toList_inj.1 h
theorem Xh (l:Str):(wd l).data.toList=l:=rfl
theorem U3 (l:Str):(wd l).toList=l:=by rw[ByteArray.toList_eq,Xh]
theorem wd_inj {a b:Str} (h:wd a=wd b):a=b:=by rw[←Xh a,←Xh b,h]
theorem wd_size (l:Str):(wd l).size=l.length:=by
 show(wd l).data.size=_;rw[←Array.length_toList,Xh]
theorem wd_append (a b:Str):wd a ++ wd b=wd (a ++ b):=ba_ext (by rw[ByteArray.data_append,Array.toList_append,Xh,Xh,Xh])
theorem Vt (l:Str) (i j:Nat):(wd l).extract i j=wd ((l.take j).drop i):=ba_ext (by
  rw[ByteArray.data_extract,Array.toList_extract,Xh,Xh,fY];rw[List.drop_take])
theorem wd_get (l:Str) (i:Nat):(wd l)[i]? = l[i]?:=by
 have h:=wd_size l;by_cases hi:i<l.length;rw[getElem?_pos (wd l) i (by rw[h]; exact hi),dI hi];rfl;rw[getElem?_neg (wd l) i (by rw[h]; exact hi),dX aA]
theorem wd_eql (a b:Str):((wd a).toList == (wd b).toList)=decide (a=b):=by
 rw[U3,U3,gE,beq_iff_eq,decide_eq_true_iff]
theorem Jj {l:Str} {p:Nat} (hp:p<l.length):(wd l).get! p=l.getD p 0:=by
 have h:=wd_get l p;rw[dI hp] at h;have hs:p<(wd l).size:=by rw[wd_size]; exact hp
 rw[getElem?_pos (wd l) p hs] at h;have h2:(wd l).get! p=(wd l)[p]'hs:=by
  show(wd l).data[p]! = (wd l).data[p]'hs;rw[getElem!_pos _ p hs]
 rw[h2,dO,dI hp];exact Option.some.inj h
instance instWC (globs:List Nat) (n:Nat) (K:KF) (l:Str):EvK globs n K (.const (.string ⟨l.toArray⟩)) (.str (wd l)):=⟨rfl⟩
abbrev kstr (s:Str):AV:=.str (wd s)
theorem KeyT.wstr {P:Program} {kt:TypeId} (h:QM P kt=true):KeyT P kt kstr:=by
 refine⟨fun a=>by simp[Zj,h],fun a b=>?_⟩;simp only[X2,h,if_true];congr 1;rw[gE,decide_eq_true_iff,decide_eq_true_iff];exact⟨wd_inj,fun h=>by rw[h]⟩
abbrev wcs (l:List Str):List AV:=l.map fun w=>AV.str (wd w)
abbrev WRow (h:AHeap) (v:AV) (l:List Str):Prop:=Rd h v 1 (wcs l)
section
variable {P:Program} {n:Nat} {ops:Array Oper} {ex:List Nat} {Q:KF→AHeap→Prop} {k:Nat} {os:List Oper} {K:KF} {h h0:AHeap} {d:Nat} {ty:TypeId} {pos:String} {after:Array Edge} {objs:List Obj}
theorem KOps.strAdd {t t':TypeId} {x y:Operand} {a b:ByteArray} [hx:EvK h.globs n K x (.str a)] [hy:EvK h.globs n K y (.str b)] (hs:a.size+b.size≤4294967296) (hk:KOps P n ops ex Q (k+1) os ((d,.str (a ++ b))::K) h):KOps P n ops ex Q k (⟨some d,.binOp .add t x y t',ty,pos,after,none⟩::os) K h:=
  Kl rfl (by simp only[apure,hx.eq,hy.eq,ZG,astr]; rw[if_pos aA]) hk
theorem Kt {t t':TypeId} {x y:Operand} {a b:Str} [hx:EvK h.globs n K x (.str (wd a))] [hy:EvK h.globs n K y (.str (wd b))] (hs:a.length+b.length≤4294967296) (hk:KOps P n ops ex Q (k+1) os ((d,.str (wd (a ++ b)))::K) h):KOps P n ops ex Q k (⟨some d,.binOp .add t x y t',ty,pos,after,none⟩::os) K h:=
  KOps.strAdd (by rw[wd_size,wd_size]; exact hs) (by rw[wd_append]; exact hk)
theorem KOps.wEql {t t':TypeId} {x y:Operand} {a b:Str} [hx:EvK h.globs n K x (.str (wd a))] [hy:EvK h.globs n K y (.str (wd b))] (hk:KOps P n ops ex Q (k+1) os ((d,.bool (decide (a=b)))::K) h):KOps P n ops ex Q k (⟨some d,.binOp .eql t x y t',ty,pos,after,none⟩::os) K h:=
  Kl rfl (by simp only[apure,hx.eq,hy.eq,ZG,astr,wd_eql]) hk
theorem KOps.wNeq {t t':TypeId} {x y:Operand} {a b:Str} [hx:EvK h.globs n K x (.str (wd a))] [hy:EvK h.globs n K y (.str (wd b))] (hk:KOps P n ops ex Q (k+1) os ((d,.bool (!decide (a=b)))::K) h):KOps P n ops ex Q k (⟨some d,.binOp .neq t x y t',ty,pos,after,none⟩::os) K h:=
  Kl rfl (by simp only[apure,hx.eq,hy.eq,ZG,astr,wd_eql]) hk
theorem str_und {t:TypeId} (ht:QM P t=true):P.underlying t=some .string:=by
 unfold QM at ht;split at ht;rename_i h; exact h;cases ht
theorem KOps.lenStr {x : Operand} {t : TypeId} {s : ByteArray} [hx : EvK h.globs n K x (.str s)] [ht : StT P t] (hk : KOps P n ops ex Q (k + 1) os ((d, .int .i64 s.size) :: K) h) :
    KOps P n ops ex Q k (⟨some d,.call {callee:=.builtin .len,args:=#[x],argTypes:=#[t]},ty,pos,after,none⟩::os) K h:=by
 refine Kl rfl (v:=.int .i64 s.size) ?_ hk;simp only[apure,hx.eq,alen,str_und ht.st]
theorem Ze {x : Operand} {t : TypeId} {l : Str} [hx : EvK h.globs n K x (.str (wd l))] [ht : StT P t] (hk : KOps P n ops ex Q (k + 1) os ((d, .int .i64 (l.length : Int)) :: K) h) :
    KOps P n ops ex Q k (⟨some d,.call {callee:=.builtin .len,args:=#[x],argTypes:=#[t]},ty,pos,after,none⟩::os) K h:=
  KOps.lenStr (by rw[wd_size]; exact hk)
theorem KOps.wCut {t : TypeId} {x : Operand} {lo hi : Option Operand} {l : Str} {i j : Nat} {z : Option Nat} [hx : EvK h.globs n K x (.str (wd l))] [ht : StT P t] (hc : Q0 l.length (lo.map (Kz h.globs n K)) (hi.map (Kz h.globs n K)) none = some (i, j, z)) (hk : KOps P n ops ex Q (k + 1) os ((d, .str (wd ((l.take j).drop i))) :: K) h) :
    KOps P n ops ex Q k (⟨some d,.slice t x lo hi none,ty,pos,after,none⟩::os) K h:=by
 refine KOps.read rfl (v:=.str (wd ((l.take j).drop i))) ?_ hk;simp only[areadR,hx.eq,XX,ht.st,gA];rw[if_pos ⟨trivial,rfl⟩,wd_size,hc];simp only[fN,fT,Vt]
theorem KOps.wHi {t : TypeId} {x u : Operand} {l : Str} {ku : IntKind} {i : Int} {j : Nat} [hx : EvK h.globs n K x (.str (wd l))] [hu : EvK h.globs n K u (.int ku i)] [ht : StT P t] (hj : i = (j : Int)) (hl : j ≤ l.length) (hk : KOps P n ops ex Q (k + 1) os ((d, .str (wd (l.take j))) :: K) h) :
    KOps P n ops ex Q k (⟨some d,.slice t x none (some u) none,ty,pos,after,none⟩::os) K h:=by
 subst hj;refine KOps.wCut (i:=0) (j:=j) (z:=none) ?_ (by rw[gY]; exact hk);have h1:(j:Int)≤(l.length:Int):=by omega
 simp[Q0,hu.eq,Qi,h1]
 try omega
theorem KOps.wLo {t : TypeId} {x u : Operand} {l : Str} {ku : IntKind} {i : Int} {j : Nat} [hx : EvK h.globs n K x (.str (wd l))] [hu : EvK h.globs n K u (.int ku i)] [ht : StT P t] (hj : i = (j : Int)) (hl : j ≤ l.length) (hk : KOps P n ops ex Q (k + 1) os ((d, .str (wd (l.drop j))) :: K) h) :
    KOps P n ops ex Q k (⟨some d,.slice t x (some u) none none,ty,pos,after,none⟩::os) K h:=by
 subst hj;refine KOps.wCut (i:=j) (j:=l.length) (z:=none) ?_ (by rw[fV]; exact hk);have h1:(j:Int)≤(l.length:Int):=by omega
 simp[Q0,hu.eq,Qi,h1]
 try omega
theorem KOps.sAt {t : TypeId} {x ix : Operand} {s : ByteArray} {kd : IntKind} {i : Int} {j : Nat} [hx : EvK h.globs n K x (.str s)] [hi : EvK h.globs n K ix (.int kd i)] [ht : StT P t] (hj : i = (j : Int)) (hlt : j < s.size) (hk : KOps P n ops ex Q (k + 1) os ((d, .int .u8 ((s.get! j).toNat : Int)) :: K) h) :
    KOps P n ops ex Q k (⟨some d,.index t x ix,ty,pos,after,none⟩::os) K h:=by
 subst hj;refine Kl rfl (v:=.int .u8 ((s.get! j).toNat:Int)) ?_ hk;simp only[apure,hx.eq,hi.eq,JP,ht.st,fU];rw[if_pos ⟨trivial,by omega⟩,getElem?_pos s j hlt];have h2:s.get! j=s[j]'hlt:=by
  show s.data[j]! = s.data[j]'hlt;rw[getElem!_pos _ j hlt]
 rw[h2]; rfl
theorem KOps.wAt {t : TypeId} {x ix : Operand} {l : Str} {kd : IntKind} {i : Int} {j : Nat} [hx : EvK h.globs n K x (.str (wd l))] [hi : EvK h.globs n K ix (.int kd i)] [ht : StT P t] (hj : i = (j : Int)) (hlt : j < l.length) (hk : KOps P n ops ex Q (k + 1) os ((d, .int .u8 ((l.getD j 0).toNat : Int)) :: K) h) :
    KOps P n ops ex Q k (⟨some d,.index t x ix,ty,pos,after,none⟩::os) K h:=
  KOps.sAt hj (by rw[wd_size]; exact hlt) (by rw[Jj hlt]; exact hk)
end
section
variable {P:Program} {n:Nat} {ops:Array Oper} {ex:List Nat} {Q:KF→AHeap→Prop} {k:Nat} {os:List Oper} {K:KF} {h h0:AHeap} {d:Nat} {ty:TypeId} {pos:String} {after:Array Edge} {objs pre rest:List Obj}
theorem KOps.loadM {x : Operand} {p v : AV} {t : TypeId} {j : Nat} {α : Type} {f : α → AV} {l : List α} (d0 : α) [hx : EvK h.globs n K x p] [ht : ScT P t] (ha : AddrOf p v 1 j) (hr : Rd h v 1 (l.map f)) (hj : j < l.length) (hk : KOps P n ops ex Q (k + 1) os ((d, f (l.getD j d0)) :: K) h) :
    KOps P n ops ex Q k (⟨some d,.load t x,ty,pos,after,none⟩::os) K h:=
  Oh ha hr bB hk
theorem OY {x : Operand} {p v : AV} {t : TypeId} {j : Nat} {l : List Str} [hx : EvK h.globs n K x p] [ht : ScT P t] (ha : AddrOf p v 1 j) (hr : WRow h v l) (hj : j < l.length) (hk : KOps P n ops ex Q (k + 1) os ((d, .str (wd (l.getD j []))) :: K) h) :
    KOps P n ops ex Q k (⟨some d,.load t x,ty,pos,after,none⟩::os) K h:=
  KOps.loadM (f:=fun w=>AV.str (wd w)) [] ha hr hj hk
theorem UD (l:List Str):(wcs l).length=l.length*1:=by simp
theorem KOps.appendW {t e : TypeId} {x y : Operand} {v u : AV} {i : Nat} {p q : List Str} {zs : List AV} {tip tip' : Bool} [hx : EvK h.globs n K x v] [hy : EvK h.globs n K y u] [ht : SlT P t e 1 zs] (st : St h0 h (⟨u, 1, wcs q, tip'⟩ :: objs)) (hex : ex.contains k = true → tip = true) (hk' : objs[i]? = some ⟨v, 1, wcs p, tip⟩) (hsz : p.length + q.length ≤ 4294967296)
    (hk:∀ r h',r.one=true→St h0 h' (objs.set i ⟨r,1,wcs (p ++ q),tip⟩)→KOps P n ops ex Q (k+1) os ((d,r)::K) h') :
    KOps P n ops ex Q k (⟨some d,.call {callee:=.builtin .append,args:=#[x,y],argTypes:=#[t,t]},ty,pos,after,none⟩::os) K h:=by
 refine KOps.append (e:=e) (zs:=zs) (s:=1) (i:=i+1) (a:=p.length) (b:=q.length) (xs:=wcs p) (ys:=wcs q) (tip:=tip) st hex (by simpa using hk') (UD p) (st.rd 0 rfl) (UD q) (by simp[AV.one]) hsz ?_;intro r h' hS;have hS':St h0 h' (objs.set i ⟨r,1,wcs (p ++ q),tip⟩):=by
  have:=St.tail hS;simpa [wcs] using this
 have hlt:=(dF.1 hk').1;exact hk r h' (hS'.one (k:=i) (o:=⟨r,1,wcs (p ++ q),tip⟩) (by rw[fI,if_pos rfl,if_pos hlt])) hS'
theorem KB {t e : TypeId} {x y : Operand} {v u : AV} {i : Nat} {p : List Str} {a : Str} {zs : List AV} {tip tip' : Bool} [hx : EvK h.globs n K x v] [hy : EvK h.globs n K y u] [ht : SlT P t e 1 zs] (st : St h0 h (⟨u, 1, [.str (wd a)], tip'⟩ :: objs)) (hex : ex.contains k = true → tip = true) (hk' : objs[i]? = some ⟨v, 1, wcs p, tip⟩) (hsz : p.length + 1 ≤ 4294967296)
    (hk:∀ r h',r.one=true→St h0 h' (objs.set i ⟨r,1,wcs (p ++ [a]),tip⟩)→KOps P n ops ex Q (k+1) os ((d,r)::K) h') :
    KOps P n ops ex Q k (⟨some d,.call {callee:=.builtin .append,args:=#[x,y],argTypes:=#[t,t]},ty,pos,after,none⟩::os) K h:=
  KOps.appendW (e:=e) (zs:=zs) (q:=[a]) st hex hk' hsz hk
theorem KOps.storeW {t : TypeId} {x y : Operand} {p v : AV} {i j : Nat} {c : Str} {l : List Str} {tip : Bool} [hx : EvK h.globs n K x p] [hy : EvK h.globs n K y (.str (wd c))] [ht : ScT P t] (st : St h0 h objs) (hex : ex.contains k = false) (hk' : objs[i]? = some ⟨v, 1, wcs l, tip⟩) (ha : AddrOf p v 1 j) (hj : j < l.length)
    (hk:∀ h',St h0 h' (objs.set i ⟨v,1,wcs (l.set j c),tip⟩)→KOps P n ops ex Q (k+1) os K h'):KOps P n ops ex Q k (⟨none,.store t x y,ty,pos,after,none⟩::os) K h:=by
 refine KK st hex hk' ha rfl bJ ?_;intro h' hS;refine hk h' ?_;have e:(wcs l).set j (.str (wd c))=wcs (l.set j c):=by simp[wcs,List.map_set]
 simp only[e] at hS;exact hS
end
end Go.Am
namespace Go.Am
instance:ScT Go.Proofs.Tryz.prog 3:=ScT.of aD
instance:IntT Go.Proofs.Tryz.prog 3 .i64:=IntT.of aD
instance:ZeT Go.Proofs.Tryz.prog 3 [.int .i64 0]:=⟨by kernel_rfl⟩
instance:ScT Go.Proofs.Tryz.prog 4:=ScT.of aD
instance:ScT Go.Proofs.Tryz.prog 5:=ScT.of aD
instance:IntT Go.Proofs.Tryz.prog 5 .u8:=IntT.of aD
instance:ScT Go.Proofs.Tryz.prog 9:=ScT.of aD
instance:IntT Go.Proofs.Tryz.prog 21 .i32:=IntT.of aD
instance:ScT Go.Proofs.Tryz.prog 22:=ScT.of aD
instance:SlT Go.Proofs.Tryz.prog 22 9 1 [.str ⟨#[]⟩]:=SlT.of aD rfl aE
instance:ScT Go.Proofs.Tryz.prog 37:=ScT.of aD
instance:ScT Go.Proofs.Tryz.prog 44:=ScT.of aD
instance:ZeT Go.Proofs.Tryz.prog 44 [.nils]:=⟨by kernel_rfl⟩
instance:SlT Go.Proofs.Tryz.prog 44 3 1 [.int .i64 0]:=SlT.of aD rfl aE
instance:SlT Go.Proofs.Tryz.prog 53 87 4 [.int .u8 0,.int .u8 0,.int .u8 0,.int .u8 0]:=SlT.of aD rfl aE
instance:IntT Go.Proofs.Tryz.prog 72 .u16:=IntT.of aD
instance:SlT Go.Proofs.Tryz.prog 74 5 1 [.int .u8 0]:=SlT.of aD rfl aE
instance:AgT Go.Proofs.Tryz.prog 87 4:=AgT.of aD
instance:ZeT Go.Proofs.Tryz.prog 87 [.int .u8 0,.int .u8 0,.int .u8 0,.int .u8 0]:=⟨by kernel_rfl⟩
instance:ScT Go.Proofs.Tryz.prog 101:=ScT.of aD
instance:SlT Go.Proofs.Tryz.prog 101 151 4 [.int .i64 0,.int .i64 0,.int .i64 0,.int .i64 0]:=SlT.of aD rfl aE
instance:AgT Go.Proofs.Tryz.prog 103 2:=AgT.of aD
instance:ZeT Go.Proofs.Tryz.prog 103 [.int .i64 0,.nils]:=⟨by kernel_rfl⟩
instance:ScT Go.Proofs.Tryz.prog 120:=ScT.of aD
instance:AgT Go.Proofs.Tryz.prog 127 7:=AgT.of aD
instance:ZeT Go.Proofs.Tryz.prog 127 [.int .i64 0,.int .i64 0,.int .i64 0,.nils,.nils,.nils,.bool false]:=⟨by kernel_rfl⟩
instance:ScT Go.Proofs.Tryz.prog 128:=ScT.of aD
instance:ScT Go.Proofs.Tryz.prog 129:=ScT.of aD
instance:ScT Go.Proofs.Tryz.prog 130:=ScT.of aD
instance:AgT Go.Proofs.Tryz.prog 151 4:=AgT.of aD
instance:ZeT Go.Proofs.Tryz.prog 151 [.int .i64 0,.int .i64 0,.int .i64 0,.int .i64 0]:=⟨by kernel_rfl⟩
instance:ScT Go.Proofs.Tryz.prog 173:=ScT.of aD
instance:SlT Go.Proofs.Tryz.prog 173 221 4 [.int .i64 0,.int .i64 0,.int .i64 0,.int .i64 0]:=SlT.of aD rfl aE
instance:ScT Go.Proofs.Tryz.prog 185:=ScT.of aD
instance:AgT Go.Proofs.Tryz.prog 203 3:=AgT.of aD
instance:AgT Go.Proofs.Tryz.prog 205 2:=AgT.of aD
instance:AgT Go.Proofs.Tryz.prog 221 4:=AgT.of aD
instance:ZeT Go.Proofs.Tryz.prog 221 [.int .i64 0,.int .i64 0,.int .i64 0,.int .i64 0]:=⟨by kernel_rfl⟩
instance:ScT Go.Proofs.Tryz.prog 229:=ScT.of aD
instance:AgT Go.Proofs.Tryz.prog 293 3:=AgT.of aD
instance:ZeT Go.Proofs.Tryz.prog 293 [.int .i64 0,.int .i64 0,.bool false]:=⟨by kernel_rfl⟩
instance:ScT Go.Proofs.Tryz.prog 294:=ScT.of aD
instance:ZeT Go.Proofs.Tryz.prog 294 [.nilm]:=⟨by kernel_rfl⟩
end Go.Am
namespace Go.Am
instance ky3:KeyT Go.Proofs.Tryz.prog 3 (AV.int .i64):=KeyT.int aD
instance st9:StT Go.Proofs.Tryz.prog 9:=⟨by kernel_rfl⟩
instance fd39_0:FdT Go.Proofs.Tryz.prog 39 0 0:=FdT.of aD
instance fd39_1:FdT Go.Proofs.Tryz.prog 39 1 1:=FdT.of aD
instance fd103_0:FdT Go.Proofs.Tryz.prog 103 0 0:=FdT.of aD
instance fd103_1:FdT Go.Proofs.Tryz.prog 103 1 1:=FdT.of aD
instance fd127_0:FdT Go.Proofs.Tryz.prog 127 0 0:=FdT.of aD
instance fd127_1:FdT Go.Proofs.Tryz.prog 127 1 1:=FdT.of aD
instance fd127_2:FdT Go.Proofs.Tryz.prog 127 2 2:=FdT.of aD
instance fd127_3:FdT Go.Proofs.Tryz.prog 127 3 3:=FdT.of aD
instance fd127_4:FdT Go.Proofs.Tryz.prog 127 4 4:=FdT.of aD
instance fd127_5:FdT Go.Proofs.Tryz.prog 127 5 5:=FdT.of aD
instance fd127_6:FdT Go.Proofs.Tryz.prog 127 6 6:=FdT.of aD
instance mp128:MpT Go.Proofs.Tryz.prog 128 9 (.nilp):=MpT.of aD
instance mp129:MpT Go.Proofs.Tryz.prog 129 3 (.nilp):=MpT.of aD
instance mp130:MpT Go.Proofs.Tryz.prog 130 3 (.bool false):=MpT.of aD
instance fd132_0:FdT Go.Proofs.Tryz.prog 132 0 0:=FdT.of aD
instance fd132_1:FdT Go.Proofs.Tryz.prog 132 1 1:=FdT.of aD
instance fd132_2:FdT Go.Proofs.Tryz.prog 132 2 2:=FdT.of aD
instance fd132_3:FdT Go.Proofs.Tryz.prog 132 3 3:=FdT.of aD
instance fd132_4:FdT Go.Proofs.Tryz.prog 132 4 4:=FdT.of aD
instance fd132_5:FdT Go.Proofs.Tryz.prog 132 5 5:=FdT.of aD
instance fd136_0:FdT Go.Proofs.Tryz.prog 136 0 0:=FdT.of aD
instance fd136_1:FdT Go.Proofs.Tryz.prog 136 1 1:=FdT.of aD
instance fd151_0:FdT Go.Proofs.Tryz.prog 151 0 0:=FdT.of aD
instance fd151_1:FdT Go.Proofs.Tryz.prog 151 1 1:=FdT.of aD
instance fd151_2:FdT Go.Proofs.Tryz.prog 151 2 2:=FdT.of aD
instance fd151_3:FdT Go.Proofs.Tryz.prog 151 3 3:=FdT.of aD
instance fd175_0:FdT Go.Proofs.Tryz.prog 175 0 0:=FdT.of aD
instance fd175_1:FdT Go.Proofs.Tryz.prog 175 1 1:=FdT.of aD
instance fd199_0:FdT Go.Proofs.Tryz.prog 199 0 0:=FdT.of aD
instance fd201_0:FdT Go.Proofs.Tryz.prog 201 0 0:=FdT.of aD
instance fd201_1:FdT Go.Proofs.Tryz.prog 201 1 1:=FdT.of aD
instance fd201_2:FdT Go.Proofs.Tryz.prog 201 2 2:=FdT.of aD
instance fd203_0:FdT Go.Proofs.Tryz.prog 203 0 0:=FdT.of aD
instance fd203_1:FdT Go.Proofs.Tryz.prog 203 1 1:=FdT.of aD
instance fd203_2:FdT Go.Proofs.Tryz.prog 203 2 2:=FdT.of aD
instance fd205_0:FdT Go.Proofs.Tryz.prog 205 0 0:=FdT.of aD
instance fd205_1:FdT Go.Proofs.Tryz.prog 205 1 1:=FdT.of aD
instance fd207_0:FdT Go.Proofs.Tryz.prog 207 0 0:=FdT.of aD
instance fd207_1:FdT Go.Proofs.Tryz.prog 207 1 1:=FdT.of aD
instance fd209_0:FdT Go.Proofs.Tryz.prog 209 0 0:=FdT.of aD
instance fd209_1:FdT Go.Proofs.Tryz.prog 209 1 1:=FdT.of aD
instance fd211_0:FdT Go.Proofs.Tryz.prog 211 0 0:=FdT.of aD
instance fd221_0:FdT Go.Proofs.Tryz.prog 221 0 0:=FdT.of aD
instance fd221_1:FdT Go.Proofs.Tryz.prog 221 1 1:=FdT.of aD
instance fd221_2:FdT Go.Proofs.Tryz.prog 221 2 2:=FdT.of aD
instance fd221_3:FdT Go.Proofs.Tryz.prog 221 3 3:=FdT.of aD
instance ar230:ArT Go.Proofs.Tryz.prog 230 64:=ArT.of aD
instance fd265_0:FdT Go.Proofs.Tryz.prog 265 0 0:=FdT.of aD
instance fd265_1:FdT Go.Proofs.Tryz.prog 265 1 2:=FdT.of aD
instance fd293_0:FdT Go.Proofs.Tryz.prog 293 0 0:=FdT.of aD
instance fd293_1:FdT Go.Proofs.Tryz.prog 293 1 1:=FdT.of aD
instance fd293_2:FdT Go.Proofs.Tryz.prog 293 2 2:=FdT.of aD
instance mp294:MpT Go.Proofs.Tryz.prog 294 3 (.agg [.int .i64 0,.int .i64 0,.bool false]):=MpT.of aD
theorem mixed:Go.Proofs.Tryz.prog.follows .mixedOrders=true:=by kernel_rfl
end Go.Am
namespace Go.Am
theorem Rk {E:List (Int × Bool)} (B:Int):∀ (D:List Nat) (l:List Int),(∀ x∈l,-B≤x∧x≤B)→∀ x∈Qd E l D,-(B+D.length)≤x∧x≤B+D.length:=by
 intro D
 induction D generalizing B with
 | nil=>intro l h x hx; simpa using h x hx
 | cons j D ih=>
  intro l h x hx;have h1:∀ y∈Z2 E l j,-(B+1)≤y∧y≤B+1:=by
   intro y hy;unfold Z2 at hy;split at hy
   ·rename_i w m _;rcases List.mem_or_eq_of_mem_set hy with hy|rfl
    have:=h y hy; omega
    ·have h2 : -B≤l.getD w.toNat 0∧l.getD w.toNat 0≤B∨l.getD w.toNat 0=0:=by
      rw[dO];by_cases hw:w.toNat<l.length;rw[dI hw]; exact .inl (h _ (fW hw));rw[dX aA]; exact .inr rfl
     by_cases hB : 0≤B;split <;> omega
     ·have:l = []:=by
       cases l with
       | nil=>rfl
       | cons a l=>have:=h a aV; omega
      subst this;simp at hy
   have:=h y hy; omega
  have h2:=ih (B+1) (Z2 E l j) h1 x hx;rw[List.length_cons];omega
abbrev entB (E:List (Int × Bool)):List (AV × AV):=entL (AV.int .i64) AV.bool E
theorem push_c {h0 h : AHeap} {pf vn vm a0 a1 : AV} {ns : List Int} {E : List (Int × Bool)} {tf tn : Bool} {G : List Obj} (hpf : AddrOf pf pf 0 0) (hvm : ZR vm) (hn0 : ns ≠ []) (hE : ∀ p ∈ E, 0 ≤ p.1 ∧ p.1 < ns.length) (hb : ∀ x ∈ ns, -1000000000 ≤ x ∧ x ≤ 1000000000) (hEl : E.length ≤ 1000000000)
    (hS:St h0 h (⟨pf,0,[a0,a1,vn],tf⟩::⟨vn,1,ints ns,tn⟩::mapO vm (entB E)::G)) :
    ACalls Go.Proofs.Tryz.prog 219 [pf,vm] h (fun _ h'=>St h0 h' (⟨pf,0,[a0,a1,vn],tf⟩::⟨vn,1,ints (Qd E ns (dL E.length)),tn⟩::mapO vm (entB E)::G)):=by
 obtain⟨bm,Fm,hvm',hgm⟩:=St.rdM hS 2 rfl hvm;have hlen:(entB E).length=E.length:=by simp[entB]
 have hS1:=St.allocT hS (.mwalk bm (entB E).length []);have hgI:(h.allocT (.mwalk bm (entB E).length [])).get h.next=some (.obj h.nfam (.mwalk bm (entB E).length [])):=by rw[AHeap.get_allocT,if_pos rfl]
 have hgM:(h.allocT (.mwalk bm (entB E).length [])).get bm=some (.obj Fm (.map (entB E))):=by
  rw[AHeap.get_allocT,if_neg (by have:=AHeap.get_lt hgm; omega)]; exact hgm
 generalize hh1:h.allocT (.mwalk bm (entB E).length [])=h1 at hS1 hgI hgM;have hrow:∃ bn off full Fn pn cs f,vn = .slc bn off ns.length 1 full∧h1.get bn=some (.cells (some Fn) pn cs)∧h1.fam Fn=some f∧f.sees bn=true∧(cs.drop off).take ns.length=ints ns:=by
  obtain⟨_,fs,e1,e2,_⟩:=id hS1;have hlt : 2<fs.length:=by rw[e1]; simp
  have hmu:=e2 2 _ _ rfl (dI hlt);generalize fs[2]'hlt=F at hmu
  cases F with
  | none=>
   have:=hmu.2;simp only[ints,List.map_eq_nil_iff] at this;exact absurd this hn0
  | some Fn=>
   rcases hmu with ⟨bn,off,pn,cs,f,_,hv,hg,hf,hs,hx,_⟩|⟨_,_,_,_,_,hz,_⟩
   rcases hv with ⟨m,full,hv,hm,_⟩|⟨hz,_⟩
   simp only[ints,dR,Nat.mul_one] at hm hx;subst hm;exact⟨bn,off,full,Fn,pn,cs,f,hv,hg,hf,hs,by simpa [ints] using hx⟩;cases hz;cases hz
 obtain⟨bn,off,full,Fn,pn,cs,f,hvn,hgn,hfn,hsee,hcut⟩:=hrow;have hne:h.next≠bn:=by rintro rfl; rw[hgI] at hgn; cases hgn
 have hneM:bm≠bn:=by rintro rfl; rw[hgM] at hgn; cases hgn
 have hneI:bm≠h.next:=by have:=AHeap.get_lt hgm; omega
 have hIlt:=AHeap.get_lt hgI;have hnlt:=AHeap.get_lt hgn;have hFlt:=AHeap.fam_lt hfn;have hcl:off+ns.length≤cs.length:=by
  have h2:=congrArg List.length hcut;have h3:=List.length_pos_iff.2 hn0;simp only[fX,List.length_drop,ints,dR] at h2;omega
 let HS:List Nat→AHeap:=fun D=>Zm h1 h.next h.nfam bm (entB E).length bn Fn pn cs off f D (ints (Qd E ns D))
 have hbl:∀ D,(Qd E ns D).length=ns.length:=fun D=>bumps_len E D ns
 have hH0:HS []=h1:=hpush_nil hgI hgn hfn (by simpa [Qd] using hcut);have hgetI:∀ D,(HS D).get h.next=some (.obj h.nfam (.mwalk bm (entB E).length D)):=fun D=>by
  show(Zm _ _ _ _ _ _ _ _ _ _ _ _ _).get _=_;rw[VQ _ hIlt hnlt,if_neg hne,if_pos rfl]
 have hgetM:∀ D,(HS D).get bm=some (.obj Fm (.map (entB E))):=fun D=>by
  show(Zm _ _ _ _ _ _ _ _ _ _ _ _ _).get _=_;rw[VQ _ hIlt hnlt,if_neg hneM,if_neg hneI]; exact hgM
 have hgetN:∀ D,(HS D).get bn=some (.cells (some Fn) pn (putL cs off (ints (Qd E ns D)))):=fun D=>by
  show(Zm _ _ _ _ _ _ _ _ _ _ _ _ _).get _=_;rw[VQ _ hIlt hnlt,if_pos rfl]
 have hfamN:∀ D,(HS D).fam Fn=some (if D = [] then f else {f with live:=some [bn]}):=fun D=>hpush_fam hFlt
 have hmove : ∀ (D : List Nat) (j : Nat), St h0 (HS D) (⟨.it h.next, 0, Thing.enc (.mwalk bm (entB E).length D), false⟩ :: ⟨pf, 0, [a0, a1, vn], tf⟩ :: ⟨vn, 1, ints (Qd E ns D), tn⟩ :: mapO vm (entB E) :: G) →
     St h0 ((HS D).set h.next (.obj h.nfam (.mwalk bm (entB E).length (D ++ [j])))) (⟨.it h.next,0,Thing.enc (.mwalk bm (entB E).length (D ++ [j])),false⟩::⟨pf,0,[a0,a1,vn],tf⟩::⟨vn,1,ints (Qd E ns D),tn⟩::mapO vm (entB E)::G):=by
   intro D j hD;refine St.setT (k:=0) hD rfl (x:=.mwalk bm (entB E).length D) (x':=.mwalk bm (entB E).length (D ++ [j])) (fun _=>rfl) rfl (hgetI D) ?_;intro F hmu
   cases F with
   | none=>cases hmu.1
   | some F=>
     rcases hmu with ⟨b,o,p,c,f',_,hv,_⟩|⟨b,x,f',hlo,hv,_,hg,hf,_⟩
     · rcases hv with ⟨_,_,hv,_⟩|⟨_,hv⟩ <;> cases hv
     · have hbb:h.next=b:=by cases x <;> first|exact AV.it.inj hv|cases hv
       subst hbb;rw[hgetI D] at hg;cases hg;exact⟨rfl,hlo,f',hf⟩
 have hput:∀ (xs:List AV) (w:Nat) (x:AV),w<xs.length→off+xs.length≤cs.length→putL (putL cs off xs) (off+w) [x]=putL cs off (xs.set w x):=by
  intro xs w x hw hc;have hl:(putL cs off xs).length=cs.length:=KT _ _ _ hc;have hl2:(putL cs off (xs.set w x)).length=cs.length:=KT _ _ _ (by rw[gI]; exact hc);rw[Vj _ _ _ aA];unfold putL;have e1:(cs.take off).length=off:=by rw[fX]; omega
  rw[fR,fR,List.set_append_right _ _ aA,e1,Nat.add_sub_cancel_left,List.set_append_left _ _ hw,gI]
 have hints:∀ (l:List Int) (w:Nat) (c:Int),(ints l).set w (.int .i64 c)=ints (l.set w c):=fun l w c=>by simp[ints,List.map_set]
 have hbump:∀ (D:List Nat) (j:Nat) (w:Int) (m:Bool),E[j]? = some (w,m)→Qd E ns (D ++ [j])=(Qd E ns D).set w.toNat ((Qd E ns D).getD w.toNat 0+if m then 1 else -1):=by
  intro D j w m hj;rw[JU,Z2,hj]
 have hstore:∀ (D:List Nat) (j:Nat) (w:Int) (m:Bool),E[j]? = some (w,m)→Xk Go.Proofs.Tryz.prog ((HS D).set h.next (.obj h.nfam (.mwalk bm (entB E).length (D ++ [j])))) 3 (.ptr bn (off+w.toNat)) (.int .i64 ((Qd E ns D).getD w.toNat 0+if m then 1 else -1))=some (.tup [],HS (D ++ [j])):=by
  intro D j w m hj;have hwl:=hE _ (fE hj);dsimp only at hwl;have hg:((HS D).set h.next (.obj h.nfam (.mwalk bm (entB E).length (D ++ [j])))).get bn=some (.cells (some Fn) pn (putL cs off (ints (Qd E ns D)))):=by
   rw[AHeap.get_set,if_neg (by rintro⟨rfl,_⟩; exact hne rfl)]; exact hgetN D
  have hf:((HS D).set h.next (.obj h.nfam (.mwalk bm (entB E).length (D ++ [j])))).fam Fn=some (if D = [] then f else {f with live:=some [bn]}):=hfamN D;have hlp:(putL cs off (ints (Qd E ns D))).length=cs.length:=KT _ _ _ (by simpa [ints,hbl D] using hcl);have hsz:szA Go.Proofs.Tryz.prog 3=some 1:=ScT.sz;have hval:((HS D).set h.next (.obj h.nfam (.mwalk bm (entB E).length (D ++ [j])))).valid bn=true:=by
   unfold AHeap.valid;rw[hg];simp only[hf];by_cases hD:D = [];rw[if_pos hD]; exact hsee;rw[if_neg hD]; simp[Fam.sees]
  simp only[Xk,hg,hf,hsz,AV.cells?,AV.one,if_true,fN,fT];rw[if_pos ⟨hval,rfl,by rw[hlp]; simp only[fJ]; omega⟩];refine congrArg (fun q=>some (AV.tup [],q)) ?_;refine hpush_step hne aV ?_ ?_;rw[hput _ _ _ (by simp only[ints,dR,hbl]; omega) (by simpa [ints,hbl D] using hcl),hints,hbump D j w m hj];by_cases hD:D = [];rw[if_pos hD];rw[if_neg hD]
 have hEj:∀ j,j<(entB E).length→∃ w m,E[j]? = some (w,m):=fun j hj=>⟨_,_,dI aA⟩
 have hSt:∀ (k:Nat) (D:List Nat),D.length=k→(∀ j∈D,j<(entB E).length)→St h0 (HS D) (⟨.it h.next,0,Thing.enc (.mwalk bm (entB E).length D),false⟩::⟨pf,0,[a0,a1,vn],tf⟩::⟨vn,1,ints (Qd E ns D),tn⟩::mapO vm (entB E)::G):=by
  intro k
  induction k with
  | zero=>
   intro D hD _;obtain rfl:=List.length_eq_zero_iff.1 hD;rw[hH0];exact hS1
  | succ k ih=>
   intro D hD hin;rcases List.eq_nil_or_concat D with rfl|⟨D',j,rfl⟩
   cases hD;rw[List.concat_eq_append] at hD hin⊢;have hD':=ih D' (by simpa using hD) (fun i hi=>hin i (by simp[hi]));obtain⟨w,m,hj⟩:=hEj j (hin j aV);have hwl:=hE _ (fE hj);dsimp only at hwl;have hm:=hmove D' j hD';obtain⟨h',e1,e2⟩:=St.store (P:=Go.Proofs.Tryz.prog) (t:=3) hm (k:=2) rfl (p:=.ptr bn (off+w.toNat)) (y:=.int .i64 ((Qd E ns D').getD w.toNat 0+if m then 1 else -1)) (j:=w.toNat) (l:=[.int .i64 ((Qd E ns D').getD w.toNat 0+if m then 1 else -1)]) ⟨bn,off,.inl ⟨Nat.one_pos,_,_,hvn⟩,rfl⟩ rfl ScT.sz aV (by simp only[ints,dR,hbl,fJ]; omega);rw[hstore D' j w m hj] at e1;simp only[dV,Prod.mk.injEq,true_and] at e1;subst e1;simp only[List.set_cons_succ,List.set_cons_zero] at e2;rw[Vj _ _ _ (by simp only[ints,dR,hbl]; omega),hints,←hbump D' j w m hj] at e2;exact e2
 have hmap:Z7 Go.Proofs.Tryz.prog 130=some (3,4):=by kernel_rfl
 refine OH 32 [] Go.Proofs.Tryz.func219 rfl aE rfl rfl (Nat.le_of_ble_eq_true rfl) ?_;show KA _ 32 _ _ [(0,pf),(1,vm)] _;refine OC ?_;refine Zo (Ru rfl hmap (EvK.eq.trans hvm') hgm) ?_;refine Og ?_;refine Oe ?_;refine Oz ?_;rw[hh1];refine KA.mapLoop (b:=h.next) (F:=h.nfam) (bm:=bm) (Fm:=Fm) (es:=entB E) (id:=0) (fun D=>[(0,pf),(7,.it h.next)]) HS (KE:=[]) (HE:=(HS (dL (entB E).length)).set h.next (.obj h.nfam .gone)) rfl (fun _ _=>EvK.eq) (fun D _=>hgetI D) (fun D _=>hgetM D) ?_ ?_ (Sub.cons Look.eq (Sub.cons Look.eq (Sub.nil _))) hH0.symm ?_
 ·intro D j k v hD hj hjk;have hjl:=(dF.1 hjk).1;obtain⟨w,m,hw⟩:=hEj j hjl;have hkv:k = .int .i64 w∧v = .bool m:=by
   simp only[entB,entL,fO,hw,dN,dV,Prod.mk.injEq] at hjk;exact⟨hjk.1.symm,hjk.2.symm⟩
  obtain⟨rfl,rfl⟩:=hkv;have hwl:=hE _ (fE hw);dsimp only at hwl;have hSt':=hmove D j (hSt D.length D rfl hD.2);have hst:=hstore D j w m hw;have hDl:D.length≤1000000000:=by
   have:=Z8 (m:=dL (entB E).length) hD.1 (fun x hx=>dQ.2 (hD.2 x hx));rw[fS] at this;omega
  have hbd:=Rk (E:=E) 1000000000 D ns hb ((Qd E ns D).getD w.toNat 0) (by
   rw[dO,dI au];exact fW _)
  have hgI':((HS D).set h.next (.obj h.nfam (.mwalk bm (entB E).length (D ++ [j])))).get h.next=some (.obj h.nfam (.mwalk bm (entB E).length (D ++ [j]))):=by
   rw[AHeap.get_set,if_pos ⟨rfl,AHeap.get_lt (hgetI D)⟩]
  have hgM':((HS D).set h.next (.obj h.nfam (.mwalk bm (entB E).length (D ++ [j])))).get bm=some (.obj Fm (.map (entB E))):=by
   rw[AHeap.get_set,if_neg (by rintro⟨h3,_⟩; exact hneI h3)]; exact hgetM D
  refine OJ ?_;refine Og ?_;refine Ov ?_;refine KI ?_;refine Ox ?_;refine Oe ?_;refine Oz ?_;refine Ot ?_;refine Zo (Rr rfl EvK.eq hgI' hgM' hjk) ?_;refine OC ?_;refine Og ?_;refine Oe ?_;refine OC ?_;refine Og ?_;refine Oe ?_
  cases m with
  | true=>
   refine KI ?_
   ·skip
    refine OC ?_;refine cC ?_;intro p16 hp16;refine Oh hp16 (hSt'.rd 1 rfl) rfl ?_;refine Od ?_;refine Ow (hSt'.rd 2 rfl) (j:=w.toNat) aA au ?_;intro q hq;refine Kg hq (hSt'.rd 2 rfl) au ?_;refine Kn aA aA ?_;refine Ow (hSt'.rd 2 rfl) (j:=w.toNat) aA au ?_;intro q2 hq2;obtain⟨bq,oq,hq3,rfl⟩:=hq2;rcases hq3 with ⟨_,_,_,hq4⟩|⟨hq4,_⟩
    rotate_left
    cases hq4;rw[hvn] at hq4;cases hq4;refine KOps.storeE rfl (h':=HS (D ++ [j])) ?_ ?_;exact hst;refine Og ?_;refine Ol ?_;exact⟨rfl,Sub.cons Look.eq (Sub.cons Look.eq (Sub.nil _)),rfl⟩
  | false=>
   refine OK ?_
   ·skip
    refine OC ?_;refine cC ?_;intro p25 hp25;refine Oh hp25 (hSt'.rd 1 rfl) rfl ?_;refine Od ?_;refine Ow (hSt'.rd 2 rfl) (j:=w.toNat) aA au ?_;intro q hq;refine Kg hq (hSt'.rd 2 rfl) au ?_;refine Q2 aA aA ?_;refine Ow (hSt'.rd 2 rfl) (j:=w.toNat) aA au ?_;intro q2 hq2;obtain⟨bq,oq,hq3,rfl⟩:=hq2;rcases hq3 with ⟨_,_,_,hq4⟩|⟨hq4,_⟩
    rotate_left
    cases hq4;rw[hvn] at hq4;cases hq4;refine KOps.storeE rfl (h':=HS (D ++ [j])) ?_ ?_;rw[show(Qd E ns D).getD w.toNat 0 - 1=(Qd E ns D).getD w.toNat 0 + -1 from rfl]; exact hst;refine Og ?_;refine Ol ?_;exact⟨rfl,Sub.cons Look.eq (Sub.cons Look.eq (Sub.nil _)),rfl⟩
 intro D hD hf;have hperm:D.Perm (dL (entB E).length):=(List.perm_ext_iff_of_nodup hD.1 List.nodup_range).2 fun i=>⟨fun hi=>dQ.2 (hD.2 i hi),fun hi=>hf i (dQ.1 hi)⟩
 refine OJ ?_;refine Og ?_;refine Ov ?_;refine OK ?_;refine Kc ?_;refine OV ?_;refine⟨rfl,Sub.nil _,⟨_,hgetI D⟩,?_⟩;show(Zm _ _ _ _ _ _ _ _ _ _ _ D _).set _ _=(Zm _ _ _ _ _ _ _ _ _ _ _ _ _).set _ _;rw[bumps_perm hperm ns];refine hpush_gone hne ⟨fun h3=>?_,fun h3=>?_⟩;subst h3; exact(List.nil_perm.1 hperm);rw[h3] at hperm; exact List.perm_nil.1 hperm
 ·refine O2 ?_;refine K5 ?_;have h3:=hSt _ (dL (entB E).length) (fS) (fun i hi=>dQ.1 hi);have h4:St h0 ((HS (dL (entB E).length)).set h.next (.obj h.nfam .gone)) (⟨.it h.next,0,Thing.enc .gone,false⟩::⟨pf,0,[a0,a1,vn],tf⟩::⟨vn,1,ints (Qd E ns (dL (entB E).length)),tn⟩::mapO vm (entB E)::G):=by
   refine St.setT (k:=0) h3 rfl (x:=.mwalk bm (entB E).length (dL (entB E).length)) (x':=.gone) (fun _=>rfl) rfl (hgetI _) ?_;intro F hmu
   cases F with
   | none=>cases hmu.1
   | some F=>
    rcases hmu with ⟨b,o,p,c,f',_,hv,_⟩|⟨b,x,f',hlo,hv,_,hg,hf,_⟩
    rcases hv with ⟨_,_,hv,_⟩|⟨_,hv⟩ <;> cases hv
    have hbb:h.next=b:=by cases x <;> first|exact AV.it.inj hv|cases hv
    subst hbb;rw[hgetI] at hg;cases hg;exact⟨rfl,hlo,f',hf⟩
  rw[←hlen];exact St.tail h4
end Go.Am
namespace Go.Am
structure W where
  f:Int
  t:Int
  l:Int
  m:Int
  deriving DecidableEq,Inhabited
abbrev wc (w:W):List AV:=[.int .i64 w.f,.int .i64 w.t,.int .i64 w.l,.int .i64 w.m]
theorem KQ (w:W):(wc w).length=4:=rfl
def Kw (r:Int) (w:W):Int:=
  if ¬ (0≤w.f∧w.f<r∧0≤w.t∧w.t<r) then 2 else if w.f=w.t then 13 else if ¬ (0≤w.l∧w.l≤w.m∧w.m≤99) then 1 else 0
def QL (r : Int) (ws : List W) : Nat → Int
  | 0=>0
  | i+1=>if QL r ws i=0 then Kw r (ws.getD i default) else QL r ws i
def KH (r:Int) (ws:List W):Int:=if ¬ (2≤r∧r≤6) then 1 else if 12<ws.length then 3 else QL r ws ws.length
theorem waysE_zero {r:Int} {ws:List W}:∀ {n i:Nat},i≤n→QL r ws n=0→QL r ws i=0:=by
 intro n
 induction n with
 | zero => intro i hi h; obtain rfl : i = 0 := by omega
           exact h
 | succ n ih=>
  intro i hi h;have h1:QL r ws n=0:=by
   rw[QL] at h;by_cases h2:QL r ws n=0;exact h2;rw[if_neg h2] at h; exact h
  rcases Nat.lt_or_eq_of_le hi with h3|rfl
  exact ih aA h1;exact h
theorem Um {r:Int} {ws:List W} {i:Nat} (h0:QL r ws i=0) (he:Kw r (ws.getD i default)≠0):∀ {n:Nat},i<n→QL r ws n=Kw r (ws.getD i default):=by
 intro n
 induction n with
 | zero=>intro h; omega
 | succ n ih=>
  intro h;rcases dJ.1 h with h1|rfl
  rw[QL,ih h1,if_neg he];rw[QL,if_pos h0]
theorem waysE_all {r:Int} {ws:List W} {n:Nat} (h:QL r ws n=0) {i:Nat} (hi:i<n):Kw r (ws.getD i default)=0:=by
 have h1:=waysE_zero (show i≤n by omega) h;by_cases h2:Kw r (ws.getD i default)=0;exact h2;rw[Um h1 h2 hi] at h; exact absurd h h2
structure WOk (r:Int) (w:W):Prop where
  f0 : 0≤w.f
  f1:w.f<r
  t0 : 0≤w.t
  t1:w.t<r
  ne:w.f≠w.t
  l0 : 0≤w.l
  lm:w.l≤w.m
  m1:w.m≤99
theorem WOk.of {r:Int} {w:W} (h:Kw r w=0):WOk r w:=by
 unfold Kw at h;by_cases h1:¬ (0≤w.f∧w.f<r∧0≤w.t∧w.t<r);rw[if_pos h1] at h; cases h;rw[if_neg h1] at h;by_cases h2:w.f=w.t;rw[if_pos h2] at h; cases h;rw[if_neg h2] at h;by_cases h3:¬ (0≤w.l∧w.l≤w.m∧w.m≤99);rw[if_pos h3] at h; cases h;have h1:=Decidable.not_not.1 h1;have h3:=Decidable.not_not.1 h3;exact⟨h1.1,h1.2.1,h1.2.2.1,h1.2.2.2,h2,h3.1,h3.2.1,h3.2.2⟩
structure BOk (r:Int) (ws:List W):Prop where
  r2 : 2≤r
  r6:r≤6
  len:ws.length≤12
  way:∀ i,i<ws.length→WOk r (ws.getD i default)
theorem BOk.of {r:Int} {ws:List W} (h:KH r ws=0):BOk r ws:=by
 unfold KH at h;by_cases h1:¬ (2≤r∧r≤6);rw[if_pos h1] at h; cases h;rw[if_neg h1] at h;by_cases h2 : 12<ws.length;rw[if_pos h2] at h; cases h;rw[if_neg h2] at h;have h1:=Decidable.not_not.1 h1;exact⟨h1.1,h1.2,by omega,fun i hi=>WOk.of (waysE_all h hi)⟩
end Go.Am
namespace Go.Am
def dl (a b:Int):Int:=if a=b then 1 else 0
def KY (ws : List W) (n : List Int) (x : Int) : Nat → Int
  | 0=>0
  | i+1=>KY ws n x i+n.getD i 0*(dl (ws.getD i default).t x - dl (ws.getD i default).f x)
abbrev kept (ws:List W) (n:List Int) (x:Int):Int:=KY ws n x ws.length
structure Within (ws:List W) (n:List Int):Prop where
  len:n.length=ws.length
  lo:∀ i,i<ws.length→(ws.getD i default).l≤n.getD i 0
  hi:∀ i,i<ws.length→n.getD i 0≤(ws.getD i default).m
structure Flow (ws:List W) (n:List Int):Prop extends Within ws n where
  kp:∀ x,kept ws n x=0
def InR (r:Int) (ws:List W):Prop:=∀ i,i<ws.length→0≤(ws.getD i default).f∧(ws.getD i default).f<r∧0≤(ws.getD i default).t∧(ws.getD i default).t<r
theorem keptTo_set {ws:List W} {n:List Int} {x:Int} {i:Nat} {c:Int} (hi:i<n.length):∀ k,KY ws (n.set i c) x k=KY ws n x k+if i<k then (c - n.getD i 0)*(dl (ws.getD i default).t x - dl (ws.getD i default).f x) else 0:=by
 intro k
 induction k with
 | zero=>simp[KY]
 | succ k ih=>
  by_cases h:i=k;subst h;have e1:(n.set i c).getD i 0=c:=by rw[QB,if_pos ⟨rfl,hi⟩]
  rw[KY,KY,ih,e1,if_neg (Nat.lt_irrefl i),if_pos (fZ i),Int.sub_mul];omega;have e1:(n.set i c).getD k 0=n.getD k 0:=by rw[QB,if_neg (fun h2=>h h2.1.symm)]
  rw[KY,KY,ih,e1];by_cases h3:i<k;rw[if_pos h3,if_pos (show i<k+1 by omega)]; omega;rw[if_neg h3,if_neg (show¬ i<k+1 by omega)]; omega
theorem WN {ws:List W} {n:List Int} {x:Int} {i:Nat} {c:Int} (hi:i<n.length) (hw:i<ws.length):kept ws (n.set i c) x=kept ws n x+(c - n.getD i 0)*(dl (ws.getD i default).t x - dl (ws.getD i default).f x):=by
 rw[kept,keptTo_set hi,if_pos hw]
def Vz (ws:List W) (n:List Int) (A:Nat→Bool) (u v:Int) (i:Nat) (more:Bool):Prop:=
  i<ws.length∧A i=true∧if more then (ws.getD i default).f=u∧(ws.getD i default).t=v∧n.getD i 0<(ws.getD i default).m else (ws.getD i default).t=u∧(ws.getD i default).f=v∧(ws.getD i default).l<n.getD i 0
inductive Path (ws:List W) (n:List Int) (A:Nat→Bool) (u:Int):List Int→Int→List (Int × Bool)→Prop where
  | nil:Path ws n A u [u] u []
  | snoc {vs:List Int} {v x:Int} {E:List (Int × Bool)} {i:Nat} {more:Bool} (p:Path ws n A u vs v E) (s:Vz ws n A v x i more) (hx:x ∉ vs):Path ws n A u (x::vs) x (((i:Int),more)::E)
section
variable {ws:List W} {n:List Int} {A:Nat→Bool} {u v:Int} {vs:List Int} {E:List (Int × Bool)}
theorem Path.last (p:Path ws n A u vs v E):v∈vs:=by cases p <;> simp
theorem Path.ends (p:Path ws n A u vs v E):∀ q∈E,∃ i:Nat,q.1=(i:Int)∧i<ws.length∧A i=true∧(ws.getD i default).f∈vs∧(ws.getD i default).t∈vs∧(if q.2 then n.getD i 0<(ws.getD i default).m else (ws.getD i default).l<n.getD i 0):=by
 induction p with
 | nil=>intro q hq; cases hq
 | @snoc vs v x E i more p s hx ih=>
  intro q hq;rcases fM.1 hq with rfl|hq
  ·refine⟨i,rfl,s.1,s.2.1,?_⟩;have hv:=p.last;have hs:=s.2.2
   cases more with
   | true=>
    simp only[if_true] at hs⊢;exact⟨by rw[hs.1]; simp[hv],by rw[hs.2.1]; simp,hs.2.2⟩
   | false=>
    simp only[dC,if_false] at hs⊢;exact⟨by rw[hs.2.1]; simp,by rw[hs.1]; simp[hv],hs.2.2⟩
  obtain⟨j,h1,h2,h3,h4,h5,h6⟩:=ih q hq;exact⟨j,h1,h2,h3,fL _ h4,fL _ h5,h6⟩
theorem Path.keys (p:Path ws n A u vs v E):(E.map (·.1)).Nodup:=by
 induction p with
 | nil=>exact List.nodup_nil
 | @snoc vs v x E i more p s hx ih=>
  rw[dM,fC];refine⟨?_,ih⟩;intro hm;obtain⟨q,hq,he⟩:=fB.1 hm;obtain⟨j,h1,_,_,h4,h5,_⟩:=p.ends q hq;have hij:j=i:=by
   have:(j:Int)=(i:Int):=by rw[←h1]; exact he
   omega
  subst hij;have hs:=s.2.2
  cases more with
  | true=>simp only[if_true] at hs; rw[hs.2.1] at h5; exact hx h5
  | false=>simp only[dC,if_false] at hs; rw[hs.2.1] at h4; exact hx h4
def QT (l:List Int) (q:Int × Bool):List Int:=l.set q.1.toNat (l.getD q.1.toNat 0+if q.2 then 1 else -1)
def Qg (E:List (Int × Bool)) (n:List Int):List Int:=E.foldr (fun q l=>QT l q) n
theorem bump1_len (l:List Int) (q:Int × Bool):(QT l q).length=l.length:=by simp[QT]
theorem Xv (E:List (Int × Bool)) (n:List Int):(Qg E n).length=n.length:=by
 induction E with
 | nil=>rfl
 | cons q E ih=>show(QT (Qg E n) q).length=_; rw[bump1_len,ih]
theorem YT {E:List (Int × Bool)} {l:List Int} {j:Nat} {q:Int × Bool} (h:E[j]? = some q):Z2 E l j=QT l q:=by
 unfold Z2 QT;rw[h]
theorem bump1_comm (l:List Int) (p q:Int × Bool):QT (QT l p) q=QT (QT l q) p:=by
 have h:=UN [p,q] l 0 1;rw[YT (E:=[p,q]) (j:=0) rfl,YT (E:=[p,q]) (j:=1) rfl,YT (E:=[p,q]) (j:=1) rfl,YT (E:=[p,q]) (j:=0) rfl] at h;exact h
theorem Rl (E:List (Int × Bool)) (n:List Int):∀ k,k≤E.length→Qd E n (dL k)=(E.take k).foldl QT n:=by
 intro k
 induction k with
 | zero=>intro _; rfl
 | succ k ih=>
  intro hk;have hg:E[k]? = some (E[k]'aA):=dI _;rw[List.range_succ,JU,ih aA,YT hg,List.take_add_one,hg,List.foldl_append];rfl
theorem foldl_one (E:List (Int × Bool)):∀ (n:List Int) (q:Int × Bool),E.foldl QT (QT n q)=QT (E.foldl QT n) q:=by
 induction E with
 | nil=>intro n q; rfl
 | cons p E ih=>intro n q; rw[fD,fD,bump1_comm,ih]
theorem bumps_push (E:List (Int × Bool)) (n:List Int):Qd E n (dL E.length)=Qg E n:=by
 rw[Rl E n _ (dY _),fV]
 induction E with
 | nil=>rfl
 | cons q E ih=>rw[fD,foldl_one,ih]; rfl
theorem XU {E:List (Int × Bool)} {n:List Int} {i:Nat} (h:∀ q∈E,q.1.toNat≠i):(Qg E n).getD i 0=n.getD i 0:=by
 induction E with
 | nil=>rfl
 | cons q E ih=>
  show(QT (Qg E n) q).getD i 0=_;rw[QT,QB,if_neg (fun h2=>h q aV h2.1.symm),ih (fun p hp=>h p (by simp[hp]))]
theorem pushE_at {E:List (Int × Bool)} {n:List Int} (hk:(E.map (·.1)).Nodup) (h0:∀ q∈E,0≤q.1) {q:Int × Bool} (hq:q∈E) (hl:q.1.toNat<n.length):(Qg E n).getD q.1.toNat 0=n.getD q.1.toNat 0+if q.2 then 1 else -1:=by
 induction E with
 | nil=>cases hq
 | cons p E ih=>
  rw[dM,fC] at hk;show(QT (Qg E n) p).getD _ 0=_;rw[QT,QB,Xv];rcases fM.1 hq with rfl|hq
  rw[if_pos ⟨rfl,hl⟩,XU];intro p' hp' he;have h1:=h0 p' (by simp[hp']);have h2:=h0 q aV;exact hk.1 (fB.2 ⟨p',hp',by omega⟩);have hne:¬ q.1.toNat=p.1.toNat:=by
   intro he;have h1:=h0 q (by simp[hq]);have h2:=h0 p aV;exact hk.1 (fB.2 ⟨q,hq,by omega⟩)
  rw[if_neg (fun h=>hne h.1)];exact ih hk.2 (fun p' hp'=>h0 p' (by simp[hp'])) hq
theorem Path.kept (p:Path ws n A u vs v E) (hl:n.length=ws.length) (x:Int):kept ws (Qg E n) x=Go.Am.kept ws n x+dl v x - dl u x:=by
 induction p with
 | nil=>show Go.Am.kept ws n x=_; omega
 | @snoc vs v y E i more p s hy ih=>
  have hk:=(Path.snoc p s hy).keys;rw[dM,fC] at hk;have hot:(Qg E n).getD i 0=n.getD i 0:=by
   refine XU ?_;intro q hq he;obtain⟨j,h1,_⟩:=p.ends q hq;refine hk.1 (fB.2 ⟨q,hq,?_⟩);rw[h1] at he⊢;simp only[fU] at he;rw[he]
  show Go.Am.kept ws (QT (Qg E n) ((i:Int),more)) x=_;unfold QT;simp only[fU];rw[WN (by rw[Xv,hl]; exact s.1) s.1,ih,hot];have hs:=s.2.2
  cases more with
  | true=>
   simp only[if_true] at hs⊢;rw[hs.1,hs.2.1];have:n.getD i 0+1 - n.getD i 0=1:=by omega
   rw[this,Int.one_mul]; omega
  | false=>
   simp only[dC,if_false] at hs⊢;rw[hs.1,hs.2.1];have:n.getD i 0 + -1 - n.getD i 0 = -1:=by omega
   rw[this]; omega
theorem Path.within (p:Path ws n A u vs v E) (h:Within ws n):Within ws (Qg E n):=by
 have hk:=p.keys;have h0:∀ q∈E,0≤q.1:=fun q hq=>by obtain⟨j,h1,_⟩:=p.ends q hq; omega
 have key:∀ i,i<ws.length→(ws.getD i default).l≤(Qg E n).getD i 0∧(Qg E n).getD i 0≤(ws.getD i default).m:=by
  intro i hi;have h1:=h.lo i hi;have h2:=h.hi i hi;by_cases hm:∃ q∈E,q.1.toNat=i;obtain⟨q,hq,rfl⟩:=hm;have h3:=pushE_at hk h0 hq (n:=n) (by rw[h.len]; exact hi);obtain⟨j,h4,h5,_,_,_,h6⟩:=p.ends q hq;have hj:q.1.toNat=j:=by omega
  rw[hj] at h1 h2 h3⊢;rw[h3];split at h6;rename_i hm; rw[if_pos hm]; omega;rename_i hm; rw[if_neg hm]; omega;rw[XU (fun q hq he=>hm ⟨q,hq,he⟩)];exact⟨h1,h2⟩
 exact⟨by rw[Xv,h.len],fun i hi=>(key i hi).1,fun i hi=>(key i hi).2⟩
theorem Path.same (p:Path ws n A u vs v E) {i:Nat} (hA:A i=false):(Qg E n).getD i 0=n.getD i 0:=by
 refine XU ?_;intro q hq he;obtain⟨j,h4,_,h5,_⟩:=p.ends q hq;have:j=i:=by omega
 subst this;rw[hA] at h5; cases h5
end
def Vy (ws:List W) (n:List Int) (A:Nat→Bool) (R:Int→Prop):Prop:=∀ i,i<ws.length→A i=true→(R (ws.getD i default).f→n.getD i 0<(ws.getD i default).m→R (ws.getD i default).t)∧(R (ws.getD i default).t→(ws.getD i default).l<n.getD i 0→R (ws.getD i default).f)
theorem UA {ws:List W} {n:List Int} {A:Nat→Bool} (u:Int):Vy ws n A (fun x=>∃ vs E,Path ws n A u vs x E):=by
 have short:∀ {vs v E},Path ws n A u vs v E→∀ x,x∈vs→∃ vs' E',Path ws n A u vs' x E':=by
  intro vs v E p
  induction p with
  | nil=>intro x hx; rw[List.mem_singleton] at hx; subst hx; exact⟨_,_,.nil⟩
  | @snoc vs v y E i more p s hy ih=>
   intro x hx;rcases fM.1 hx with rfl|hx
   exact⟨_,_,.snoc p s hy⟩;exact ih x hx
 intro i hi hA;constructor;rintro⟨vs,E,p⟩ hlt;by_cases hm:(ws.getD i default).t∈vs;exact short p _ hm;exact⟨_,_,.snoc p (i:=i) (more:=true) ⟨hi,hA,by simp only[if_true]; exact⟨trivial,trivial,hlt⟩⟩ hm⟩;rintro⟨vs,E,p⟩ hlt;by_cases hm:(ws.getD i default).f∈vs;exact short p _ hm;exact⟨_,_,.snoc p (i:=i) (more:=false) ⟨hi,hA,by simp only[dC,if_false]; exact⟨trivial,trivial,hlt⟩⟩ hm⟩
end Go.Am
namespace Go.Am
def bi (b:Bool):Int:=if b then 1 else 0
def Q1 (ws : List W) (n : List Int) (ρ : Int → Bool) : Nat → Int
  | 0=>0
  | i+1=>Q1 ws n ρ i+n.getD i 0*(bi (ρ (ws.getD i default).t) - bi (ρ (ws.getD i default).f))
def Qy (ρ : Int → Bool) (F : Int → Int) : Nat → Int
  | 0=>0
  | k+1=>Qy ρ F k+if ρ k then F k else 0
theorem W6 (ρ:Int→Bool) (F G:Int→Int):∀ k,Qy ρ (fun x=>F x+G x) k=Qy ρ F k+Qy ρ G k:=by
 intro k
 induction k with
 | zero=>rfl
 | succ k ih=>simp only[Qy,ih]; split <;> omega
theorem W7 (ρ:Int→Bool) (c:Int) (F:Int→Int):∀ k,Qy ρ (fun x=>c*F x) k=c*Qy ρ F k:=by
 intro k
 induction k with
 | zero=>simp[Qy]
 | succ k ih=>simp only[Qy,ih]; split <;> simp[Int.mul_add]
theorem sumR_dl (ρ:Int→Bool) {a:Int} (h0 : 0≤a):∀ k:Nat,Qy ρ (fun x=>dl a x) k=if a<k then bi (ρ a) else 0:=by
 intro k
 induction k with
 | zero=>rw[if_neg aA]; rfl
 | succ k ih=>
  rw[Qy,ih];by_cases h:a=k;subst h;rw[if_neg (Int.lt_irrefl _),if_pos (show((k:Nat):Int)<((k+1:Nat):Int) by omega)];unfold dl bi;simp;have e:dl a k=0:=if_neg h;rw[e,ite_self,Int.add_zero];by_cases h2:a<k;rw[if_pos h2,if_pos (show a<((k+1:Nat):Int) by omega)];rw[if_neg h2,if_neg (show¬ a<((k+1:Nat):Int) by omega)]
theorem V4 {ρ:Int→Bool} {F:Int→Int} (h:∀ x,F x=0):∀ k,Qy ρ F k=0:=by
 intro k
 induction k with
 | zero=>rfl
 | succ k ih=>rw[Qy,ih,h,ite_self]; rfl
theorem YE {r:Nat} {ws:List W} (hr:InR r ws) (n:List Int) (ρ:Int→Bool):∀ k,k≤ws.length→Qy ρ (fun x=>KY ws n x k) r=Q1 ws n ρ k:=by
 intro k
 induction k with
 | zero=>
  intro _;exact V4 (fun x=>rfl) r
 | succ k ih=>
  intro hk;obtain⟨h1,h2,h3,h4⟩:=hr k aA;have e:(fun x=>KY ws n x (k+1))=fun x=>KY ws n x k+n.getD k 0*(dl (ws.getD k default).t x + -1*dl (ws.getD k default).f x):=by
   funext x;rw[KY];congr 2;omega
  rw[e,W6,ih aA,W7,W6,W7,sumR_dl ρ h3,sumR_dl ρ h1,if_pos h4,if_pos h2,Q1];congr 2;omega
theorem Wv {ws:List W} {n:List Int} {ρ:Int→Bool} (h:∀ x,ρ x=true):∀ k,Q1 ws n ρ k=0:=by
 intro k
 induction k with
 | zero=>rfl
 | succ k ih=>rw[Q1,ih,h,h]; simp[bi]
theorem JE {r:Int} {ws:List W} (hr:InR r ws) (n:List Int) {x:Int} (hx:x<0∨r≤x):∀ k,k≤ws.length→KY ws n x k=0:=by
 intro k
 induction k with
 | zero=>intro _; rfl
 | succ k ih=>
  intro hk;obtain⟨h1,h2,h3,h4⟩:=hr k aA;rw[KY,ih aA,dl,dl,if_neg aA,if_neg aA];simp
def inS (s:Nat) (x:Int):Bool:=s.testBit x.toNat
def lvs (w:W) (s:Nat):Bool:=inS s w.f && !inS s w.t
def ens (w:W) (s:Nat):Bool:=!inS s w.f && inS s w.t
def Je (ws : List W) (s : Nat) : Nat → Int
  | 0=>0
  | i+1=>Je ws s i+(if lvs (ws.getD i default) s then (ws.getD i default).l else 0) - if ens (ws.getD i default) s then (ws.getD i default).m else 0
def Yq (ws:List W) (s:Nat):Bool:=decide (0<Je ws s ws.length)
def X4 (r:Nat) (ws:List W):Bool:=(dL (2 ^ r)).all fun s=>!Yq ws s
theorem canB_iff {r:Nat} {ws:List W}:X4 r ws=true↔∀ s,s<2 ^ r→Yq ws s=false:=by
 unfold X4;rw[List.all_eq_true];exact⟨fun h s hs=>by have:=h s (dQ.2 hs); simpa using this,fun h s hs=>by rw[h s (dQ.1 hs)]; rfl⟩
theorem net_cross {ws:List W} {n:List Int} (h:Within ws n) (s:Nat):∀ k,k≤ws.length→Je ws s k≤-Q1 ws n (inS s) k:=by
 intro k
 induction k with
 | zero=>intro _; exact dP _
 | succ k ih=>
  intro hk;have h0:=ih aA;have h1:=h.lo k aA;have h2:=h.hi k aA;rw[Je,Q1];generalize ws.getD k default=w at *;generalize n.getD k 0=c at *;unfold lvs ens bi
  cases inS s w.f <;> cases inS s w.t <;> simp <;> omega
theorem proof_none {r:Nat} {ws:List W} (hr:InR r ws) {s:Nat} (hp:Yq ws s=true):¬ ∃ n,Flow ws n:=by
 rintro⟨n,hf⟩;have h1:=net_cross hf.toWithin s ws.length (dY _);have h2:=YE hr n (inS s) ws.length (dY _);rw[V4 (fun x=>hf.kp x)] at h2;have h3:=of_decide_eq_true hp;omega
def XQ (ρ : Int → Bool) : Nat → Nat
  | 0=>0
  | k+1=>XQ ρ k+if ρ k then 2 ^ k else 0
theorem WR (ρ:Int→Bool):∀ k,XQ ρ k<2 ^ k:=by
 intro k
 induction k with
 | zero=>exact Nat.one_pos
 | succ k ih=>rw[XQ,Nat.pow_succ]; split <;> omega
theorem maskB_bit (ρ:Int→Bool):∀ k i:Nat,(XQ ρ k).testBit i=(decide (i<k) && ρ i):=by
 intro k
 induction k with
 | zero=>intro i; simp[XQ]
 | succ k ih=>
  intro i;have hlt:=WR ρ k;rw[XQ];by_cases hρ : ρ k=true;rw[if_pos hρ,Nat.add_comm];by_cases hik:i=k;subst hik;rw[Nat.testBit_two_pow_add_eq,fH hlt];simp[hρ];by_cases hlt2:i<k;rw[Nat.testBit_two_pow_add_gt hlt2,ih];simp[hlt2,show i<k+1 by omega];have hb : 2 ^ k+XQ ρ k<2 ^ i:=by
   have h2 : 2 ^ (k+1)≤2 ^ i:=Nat.pow_le_pow_right aE aA;rw[Nat.pow_succ] at h2;omega
  rw[fH hb];simp[show¬ i<k+1 by omega];have hρ : ρ k=false:=by simpa using hρ
  rw[if_neg (by simp[hρ]),Nat.add_zero,ih];by_cases hik:i=k;subst hik; simp[hρ];by_cases hlt2:i<k;simp[hlt2,show i<k+1 by omega];simp[hlt2,show¬ i<k+1 by omega]
theorem WM {ρ:Int→Bool} {r:Nat} {x:Int} (h0 : 0≤x) (h1:x<r):inS (XQ ρ r) x=ρ x:=by
 unfold inS;rw[maskB_bit,decide_eq_true aA,Bool.true_and];congr 1;omega
theorem cut_proof {r:Nat} {ws:List W} (hr:InR r ws) {n:List Int} (h:Within ws n) {ρ:Int→Bool} (hc:Vy ws n (fun _=>true) (fun x=>ρ x=true)) (hpos : 0<Qy ρ (fun x=>kept ws n x) r):Yq ws (XQ (fun x=>!ρ x) r)=true:=by
 have key:∀ k,k≤ws.length→Je ws (XQ (fun x=>!ρ x) r) k=Q1 ws n ρ k:=by
  intro k
  induction k with
  | zero=>intro _; rfl
  | succ k ih=>
   intro hk;obtain⟨h1,h2,h3,h4⟩:=hr k aA;obtain⟨c1,c2⟩:=hc k aA rfl;have hl:=h.lo k aA;have hm:=h.hi k aA;rw[Je,Q1,ih aA];unfold lvs ens bi;rw[WM h1 h2,WM h3 h4]
   cases hf : ρ (ws.getD k default).f <;> cases ht : ρ (ws.getD k default).t
   simp;have:¬ (ws.getD k default).l<n.getD k 0:=fun hlt=>by have this : ρ (ws.getD k default).f=true:=c2 ht hlt; rw[hf] at this; cases this
   simp only[gB,Bool.not_true,Bool.and_true,gC,if_true,dC,if_false];omega;have:¬ n.getD k 0<(ws.getD k default).m:=fun hlt=>by have this : ρ (ws.getD k default).t=true:=c1 hf hlt; rw[ht] at this; cases this
   simp only[gB,Bool.not_true,Bool.and_true,gC,if_true,dC,if_false];omega;simp
 unfold Yq;rw[key _ (dY _),←YE hr n ρ _ (dY _)];exact decide_eq_true hpos
def ZJ (ws : List W) (n : List Int) : Nat → Nat
  | 0=>0
  | k+1=>ZJ ws n k+(kept ws n k).natAbs
theorem WA {ws:List W} {n n':List Int} {u v:Int} (hk:∀ x,kept ws n' x=kept ws n x+dl v x - dl u x) (hu : 0<kept ws n u) (hv:kept ws n v<0) (h0u : 0≤u) (h0v : 0≤v):∀ r:Nat,ZJ ws n' r+((if u<r then 1 else 0)+if v<r then 1 else 0)=ZJ ws n r:=by
 have hne:u≠v:=by rintro rfl; omega
 intro r
 induction r with
 | zero=>rw[if_neg aA,if_neg aA]; rfl
 | succ r ih=>
  rw[ZJ,ZJ,hk];have cr:((r+1:Nat):Int)=(r:Int)+1:=by omega
  rw[cr];by_cases h1:u=r;have e1:dl u r=1:=if_pos h1;have e2:dl v r=0:=if_neg (fun h=>hne (h1.trans h.symm));have e3:(if u<(r:Int) then 1 else 0:Nat)=0:=if_neg aA;have e4:(if u<(r:Int)+1 then 1 else 0:Nat)=1:=if_pos aA;have e5:(if v<(r:Int)+1 then 1 else 0:Nat)=if v<(r:Int) then 1 else 0:=by
   by_cases h2:v<(r:Int);rw[if_pos h2,if_pos aA];rw[if_neg h2,if_neg aA]
  rw[h1] at hu;rw[e3] at ih;rw[e1,e2,e4,e5];omega;by_cases h2:v=r;have e1:dl u r=0:=if_neg h1;have e2:dl v r=1:=if_pos h2;have e3:(if v<(r:Int) then 1 else 0:Nat)=0:=if_neg aA;have e4:(if v<(r:Int)+1 then 1 else 0:Nat)=1:=if_pos aA;have e5:(if u<(r:Int)+1 then 1 else 0:Nat)=if u<(r:Int) then 1 else 0:=by
   by_cases h3:u<(r:Int);rw[if_pos h3,if_pos aA];rw[if_neg h3,if_neg aA]
  rw[h2] at hv;rw[e3] at ih;rw[e1,e2,e4,e5];omega;have e1:dl u r=0:=if_neg h1;have e2:dl v r=0:=if_neg h2;have e5:(if u<(r:Int)+1 then 1 else 0:Nat)=if u<(r:Int) then 1 else 0:=by
   by_cases h3:u<(r:Int);rw[if_pos h3,if_pos aA];rw[if_neg h3,if_neg aA]
  have e6:(if v<(r:Int)+1 then 1 else 0:Nat)=if v<(r:Int) then 1 else 0:=by
   by_cases h3:v<(r:Int);rw[if_pos h3,if_pos aA];rw[if_neg h3,if_neg aA]
  rw[e1,e2,e5,e6];have e7:kept ws n ↑r+0 - 0=kept ws n ↑r:=by omega
  rw[e7];omega
theorem WC {ws:List W} {n:List Int}:∀ {r:Nat},ZJ ws n r=0→∀ x:Nat,x<r→kept ws n x=0:=by
 intro r
 induction r with
 | zero=>intro _ x hx; omega
 | succ r ih=>
  intro h x hx;rw[ZJ] at h;rcases dJ.1 hx with h1|rfl
  exact ih aA x h1;omega
theorem sumR_pos {ρ:Int→Bool} {F:Int→Int} {u:Nat} (hu : ρ u=true) (hF : 0<F u) (h:∀ x:Nat,ρ x=true→0≤F x):∀ r,u<r→0<Qy ρ F r:=by
 have h0:∀ r,0≤Qy ρ F r:=by
  intro r
  induction r with
  | zero=>exact dP _
  | succ r ih=>
   rw[Qy];split;rename_i hr; have:=h r hr; omega;omega
 intro r
 induction r with
 | zero=>intro hr; omega
 | succ r ih=>
  intro hr;rw[Qy];rcases dJ.1 hr with h1|rfl
  have:=ih h1;split;rename_i hr; have:=h r hr; omega;omega;rw[if_pos hu]; have:=h0 u; omega
theorem sumR_some {F:Int→Int}:∀ {r:Nat},Qy (fun _=>true) F r=0→(∃ x:Nat,x<r∧F x≠0)→(∃ u:Nat,u<r∧0<F u)∧∃ v:Nat,v<r∧F v<0:=by
 intro r hs hx;have hpos:(∀ u:Nat,u<r→F u≤0)→(∃ x:Nat,x<r∧F x≠0)→Qy (fun _=>true) F r<0:=by
  clear hs hx
  induction r with
  | zero=>rintro _ ⟨x,hx,_⟩; omega
  | succ r ih=>
   intro h ⟨x,hx,hne⟩;have hr:=h r aA;have hle:Qy (fun _=>true) F r≤0:=by
    by_cases hex:∃ y:Nat,y<r∧F y≠0;exact Int.le_of_lt (ih (fun u hu=>h u aA) hex)
    ·have:∀ k,k≤r→Qy (fun _=>true) F k=0:=by
      intro k
      induction k with
      | zero=>intro _; rfl
      | succ k ih2=>
       intro hk;rw[Qy,ih2 aA,if_pos rfl];have:F k=0:=dG fun hne=>hex ⟨k,by omega,hne⟩
       omega
     rw[this r (dY _)]; exact dP _
   rw[Qy,if_pos rfl];rcases dJ.1 hx with h1|rfl
   have:=ih (fun u hu=>h u aA) ⟨x,h1,hne⟩;omega;omega
 have hneg:(∀ u:Nat,u<r→0≤F u)→(∃ x:Nat,x<r∧F x≠0)→0<Qy (fun _=>true) F r:=by
  intro h ⟨x,hx,hne⟩;have hnn:∀ k,k≤r→0≤Qy (fun _=>true) F k:=by
   intro k
   induction k with
   | zero=>intro _; exact dP _
   | succ k ih=>intro hk; rw[Qy,if_pos rfl]; have:=ih aA; have:=h k aA; omega
  have:∀ k,x<k→k≤r→0<Qy (fun _=>true) F k:=by
   intro k
   induction k with
   | zero=>intro h1; omega
   | succ k ih=>
    intro h1 hk;rw[Qy,if_pos rfl];have h2:=h k aA;rcases dJ.1 h1 with h3|rfl
    have:=ih h3 aA; omega;have:=hnn x aA; have:=h x hx; omega
  exact this r hx (dY _)
 constructor;apply dG;intro hno;have:=hpos (fun u hu=>by
  have:¬ 0<F u:=fun hp=>hno ⟨u,hu,hp⟩
  omega) hx
 omega;apply dG;intro hno;have:=hneg (fun u hu=>by
  have:¬ F u<0:=fun hp=>hno ⟨u,hu,hp⟩
  omega) hx
 omega
theorem kept_sum {r:Nat} {ws:List W} (hr:InR r ws) (n:List Int):Qy (fun _=>true) (fun x=>kept ws n x) r=0:=by
 rw[YE hr n _ _ (dY _),Wv (fun _=>rfl)]
open Classical in
theorem Vw {r : Nat} {ws : List W} (hr : InR r ws) {n : List Int} (h : Within ws n) (hne : ZJ ws n r ≠ 0) :
    (∃ u v:Nat,u<r∧v<r∧0<kept ws n u∧kept ws n v<0∧∃ vs E,Path ws n (fun _=>true) u vs v E)∨∃ s,s<2 ^ r∧Yq ws s=true:=by
 have hex:∃ x:Nat,x<r∧kept ws n x≠0:=by
  apply dG;intro hno;apply hne;have:∀ k,k≤r→ZJ ws n k=0:=by
   intro k
   induction k with
   | zero=>intro _; rfl
   | succ k ih=>
    intro hk;have h0:kept ws n k=0:=dG fun hne=>hno ⟨k,by omega,hne⟩
    rw[ZJ,ih aA,h0]; rfl
  exact this r (dY _)
 obtain⟨⟨u,hu,hpu⟩,_⟩:=sumR_some (kept_sum hr n) hex;by_cases hp:∃ v:Nat,v<r∧kept ws n v<0∧∃ vs E,Path ws n (fun _=>true) u vs v E;obtain⟨v,h1,h2,h3⟩:=hp;exact .inl ⟨u,v,hu,h1,hpu,h2,h3⟩;right;have hcl:=UA (ws:=ws) (n:=n) (A:=fun _=>true) (u:Int);have e:(fun x:Int=>(decide (∃ vs E,Path ws n (fun _=>true) u vs x E))=true)=fun x=>∃ vs E,Path ws n (fun _=>true) u vs x E:=by
  funext x;exact decide_eq_true_eq
 refine⟨_,WR _ r,cut_proof hr h (ρ:=fun x=>decide (∃ vs E,Path ws n (fun _=>true) u vs x E)) (by rw[e]; exact hcl) ?_⟩;refine sumR_pos (u:=u) (decide_eq_true ⟨_,_,.nil⟩) hpu ?_ r hu;intro x hx;have hx:=of_decide_eq_true hx;by_cases hxr:x<r;have:¬ kept ws n x<0:=fun hlt=>hp ⟨x,hxr,hlt,hx⟩
 omega;have:kept ws n x=0:=JE hr n (.inr aA) _ (dY _);omega
theorem Rm {r:Nat} {ws:List W} (hr:InR r ws) (hc:X4 r ws=true):∀ (d:Nat) (n:List Int),ZJ ws n r=d→Within ws n→∃ n',Flow ws n':=by
 intro d
 induction d using gO with
 | _ d ih=>
  intro n hd h;by_cases h0:d=0;subst h0;refine⟨n,h,?_⟩;intro x;by_cases hx:x<0∨(r:Int)≤x;exact JE hr n hx _ (dY _);have:=WC hd x.toNat aA;rwa [show((x.toNat:Nat):Int)=x by omega] at this;rcases Vw hr h aA with ⟨u,v,hu,hv,hpu,hpv,vs,E,p⟩|⟨s,hs,hp⟩
  have hdv:=WA (n':=Qg E n) (fun x=>p.kept h.len x) hpu hpv aA aA r;rw[if_pos aA,if_pos aA] at hdv;exact ih (ZJ ws (Qg E n) r) aA _ rfl (p.within h);rw[canB_iff.1 hc s hs] at hp; cases hp
theorem Uw {r:Nat} {ws:List W} (hr:InR r ws) (hl:∀ i,i<ws.length→(ws.getD i default).l≤(ws.getD i default).m):X4 r ws=true↔∃ n,Flow ws n:=by
 constructor;intro hc;have hg:∀ i,(ws.map (·.l)).getD i 0=if i<ws.length then (ws.getD i default).l else 0:=by
  intro i;rw[dO,fO,dO];by_cases hi:i<ws.length;rw[dI hi,if_pos hi]; rfl;rw[dX aA,if_neg hi]; rfl
 refine Rm hr hc _ (ws.map (·.l)) rfl ⟨by simp,?_,?_⟩;intro i hi; rw[hg,if_pos hi]; exact dP _;intro i hi; rw[hg,if_pos hi]; exact hl i hi
 ·intro hf;refine canB_iff.2 fun s _=>?_
  cases hp:Yq ws s with
  | false=>rfl
  | true=>exact absurd hf (proof_none hr hp)
end Go.Am
namespace Go.Am
theorem JW {ws : List W} {n n' : List Int} {A : Nat → Bool} {ρ : Int → Bool} {i : Nat} (h : Within ws n) (h' : Within ws n') (hc : Vy ws n A (fun x => ρ x = true)) (hA : A i = false) (hs : ∀ k, k < ws.length → A k = false → k ≠ i → n'.getD k 0 = n.getD k 0) :
    ∀ k,k≤ws.length→Q1 ws n ρ k+(if i<k then (n'.getD i 0 - n.getD i 0)*(bi (ρ (ws.getD i default).t) - bi (ρ (ws.getD i default).f)) else 0)≤Q1 ws n' ρ k:=by
 intro k
 induction k with
 | zero=>intro _; rw[if_neg aA]; exact dP _
 | succ k ih=>
  intro hk;have h0:=ih aA;rw[Q1,Q1];by_cases hik:i=k;subst hik;rw[if_neg (Nat.lt_irrefl _)] at h0;rw[if_pos (fZ _),Int.sub_mul];omega
  ·have h1:n.getD k 0*(bi (ρ (ws.getD k default).t) - bi (ρ (ws.getD k default).f))≤n'.getD k 0*(bi (ρ (ws.getD k default).t) - bi (ρ (ws.getD k default).f)):=by
    cases hAk:A k with
    | false=>rw[hs k aA hAk (fun h=>hik h.symm)]; exact dP _
    | true=>
     obtain⟨c1,c2⟩:=hc k aA hAk;have l1:=h.lo k aA;have l2:=h.hi k aA;have l3:=h'.lo k aA;have l4:=h'.hi k aA;have c1 : ρ (ws.getD k default).f=true→n.getD k 0<(ws.getD k default).m→ρ (ws.getD k default).t=true:=c1;have c2 : ρ (ws.getD k default).t=true→(ws.getD k default).l<n.getD k 0→ρ (ws.getD k default).f=true:=c2;generalize ws.getD k default=w at *;generalize n.getD k 0=a at *;generalize n'.getD k 0=b at *
     cases hf : ρ w.f <;> cases ht : ρ w.t
     simp[bi];have:¬ w.l<a:=fun hlt=>by have:=c2 ht hlt; rw[hf] at this; cases this
     simp[bi]; omega;have:¬ a<w.m:=fun hlt=>by have:=c1 hf hlt; rw[ht] at this; cases this
     simp[bi]; omega;simp[bi]
   by_cases h2:i<k;rw[if_pos h2] at h0; rw[if_pos aA]; omega;rw[if_neg h2] at h0; rw[if_neg aA]; omega
theorem X9 {r:Nat} {ws:List W} (hr:InR r ws) {n:List Int} (hf:Flow ws n) (ρ:Int→Bool):Q1 ws n ρ ws.length=0:=by
 rw[←YE hr n ρ _ (dY _)];exact V4 (fun x=>hf.kp x) r
theorem cut_least {r : Nat} {ws : List W} (hr : InR r ws) {n n' : List Int} {A : Nat → Bool} {ρ : Int → Bool} {i : Nat} (hf : Flow ws n) (hf' : Flow ws n') (hi : i < ws.length) (hc : Vy ws n A (fun x => ρ x = true)) (hA : A i = false) (hs : ∀ k, k < ws.length → A k = false → k ≠ i → n'.getD k 0 = n.getD k 0)
    (h1 : ρ (ws.getD i default).f=true) (h2 : ρ (ws.getD i default).t=false):n.getD i 0≤n'.getD i 0:=by
 have h:=JW hf.toWithin hf'.toWithin hc hA hs ws.length (dY _);rw[if_pos hi,X9 hr hf,X9 hr hf',h1,h2] at h;simp only[bi,dC,if_true,if_false] at h;omega
theorem cut_most {r : Nat} {ws : List W} (hr : InR r ws) {n n' : List Int} {A : Nat → Bool} {ρ : Int → Bool} {i : Nat} (hf : Flow ws n) (hf' : Flow ws n') (hi : i < ws.length) (hc : Vy ws n A (fun x => ρ x = true)) (hA : A i = false) (hs : ∀ k, k < ws.length → A k = false → k ≠ i → n'.getD k 0 = n.getD k 0)
    (h1 : ρ (ws.getD i default).t=true) (h2 : ρ (ws.getD i default).f=false):n'.getD i 0≤n.getD i 0:=by
 have h:=JW hf.toWithin hf'.toWithin hc hA hs ws.length (dY _);rw[if_pos hi,X9 hr hf,X9 hr hf',h1,h2] at h;simp only[bi,dC,if_true,if_false] at h;omega
def Xi (ws:List W) (i:Nat) (v:Int):List W:=ws.set i {(ws.getD i default) with l:=v,m:=v}
theorem QJ (ws:List W) (i:Nat) (v:Int):(Xi ws i v).length=ws.length:=by simp[Xi]
theorem ZE {ws:List W} {i:Nat} {v:Int} (hi:i<ws.length) (k:Nat):(Xi ws i v).getD k default=if k=i then {(ws.getD i default) with l:=v,m:=v} else ws.getD k default:=by
 unfold Xi;rw[dO,fI];by_cases h:i=k;subst h; rw[if_pos rfl,if_pos hi,if_pos rfl]; rfl;rw[if_neg h,if_neg (fun h2=>h h2.symm),dO]
theorem Uo {ws:List W} {i:Nat} {v:Int} (hi:i<ws.length) (n:List Int) (x:Int):∀ k,KY (Xi ws i v) n x k=KY ws n x k:=by
 intro k
 induction k with
 | zero=>rfl
 | succ k ih=>
  rw[KY,KY,ih,ZE hi];by_cases h:k=i;subst h; rw[if_pos rfl];rw[if_neg h]
theorem withW_inR {r:Int} {ws:List W} {i:Nat} {v:Int} (hi:i<ws.length) (hr:InR r ws):InR r (Xi ws i v):=by
 intro k hk;rw[QJ] at hk;rw[ZE hi];by_cases h:k=i;subst h; rw[if_pos rfl]; exact hr k hk;rw[if_neg h]; exact hr k hk
theorem UO {ws:List W} {i:Nat} {v:Int} (hi:i<ws.length) (h1:(ws.getD i default).l≤v) (h2:v≤(ws.getD i default).m) {n:List Int}:Flow (Xi ws i v) n↔Flow ws n∧n.getD i 0=v:=by
 constructor;intro h;have e:n.getD i 0=v:=by
  have l1:=h.lo i (by rw[QJ]; exact hi);have l2:=h.hi i (by rw[QJ]; exact hi);rw[ZE hi,if_pos rfl] at l1 l2;have l1:v≤n.getD i 0:=l1;have l2:n.getD i 0≤v:=l2;omega
 refine⟨⟨⟨by rw[h.len,QJ],?_,?_⟩,?_⟩,e⟩;intro k hk;have:=h.lo k (by rw[QJ]; exact hk);rw[ZE hi] at this;by_cases hki:k=i;subst hki; rw[e]; exact h1;rw[if_neg hki] at this; exact this;intro k hk;have:=h.hi k (by rw[QJ]; exact hk);rw[ZE hi] at this;by_cases hki:k=i;subst hki; rw[e]; exact h2;rw[if_neg hki] at this; exact this;intro x;have:=h.kp x;rw[kept,QJ,Uo hi] at this;exact this;rintro⟨h,e⟩;refine⟨⟨by rw[h.len,QJ],?_,?_⟩,?_⟩;intro k hk;rw[QJ] at hk;rw[ZE hi];by_cases hki:k=i;subst hki; rw[if_pos rfl]; exact Int.le_of_eq e.symm;rw[if_neg hki]; exact h.lo k hk;intro k hk;rw[QJ] at hk;rw[ZE hi];by_cases hki:k=i;subst hki; rw[if_pos rfl]; exact Int.le_of_eq e;rw[if_neg hki]; exact h.hi k hk;intro x;rw[kept,QJ,Uo hi];exact h.kp x
def LM (ws:List W):Prop:=∀ i,i<ws.length→(ws.getD i default).l≤(ws.getD i default).m
theorem withW_LM {ws:List W} {i:Nat} {v:Int} (hi:i<ws.length) (h:LM ws):LM (Xi ws i v):=by
 intro k hk;rw[QJ] at hk;rw[ZE hi];by_cases hki:k=i;subst hki; rw[if_pos rfl]; exact dP _;rw[if_neg hki]; exact h k hk
theorem Y8 {r:Nat} {ws:List W} {i:Nat} {v:Int} (hr:InR r ws) (hl:LM ws) (hi:i<ws.length) (h1:(ws.getD i default).l≤v) (h2:v≤(ws.getD i default).m):X4 r (Xi ws i v)=true↔∃ n,Flow ws n∧n.getD i 0=v:=by
 rw[Uw (withW_inR hi hr) (withW_LM hi hl)];exact⟨fun⟨n,hn⟩=>⟨n,(UO hi h1 h2).1 hn⟩,fun⟨n,hn⟩=>⟨n,(UO hi h1 h2).2 hn⟩⟩
theorem J1 {α:Type} {P : α→Prop} (f : α→Nat) (h:∃ a,P a):∃ a,P a∧∀ b,P b→f a≤f b:=by
 obtain⟨a,ha⟩:=h;have:∀ k a,P a→f a=k→∃ a,P a∧∀ b,P b→f a≤f b:=by
  intro k
  induction k using gO with
  | _ k ih=>
   intro a ha hk;by_cases hb:∃ b,P b∧f b<f a;obtain⟨b,hb,hlt⟩:=hb;exact ih (f b) aA b hb rfl;refine⟨a,ha,fun b hb'=>?_⟩;have:¬ f b<f a:=fun h=>hb ⟨b,hb',h⟩
   omega
 exact this _ a ha rfl
def IsLo (ws:List W) (i:Nat) (v:Int):Prop:=(∃ n,Flow ws n∧n.getD i 0=v)∧∀ n,Flow ws n→v≤n.getD i 0
def IsHi (ws:List W) (i:Nat) (v:Int):Prop:=(∃ n,Flow ws n∧n.getD i 0=v)∧∀ n,Flow ws n→n.getD i 0≤v
theorem IsLo.uniq {ws:List W} {i:Nat} {v v':Int} (h:IsLo ws i v) (h':IsLo ws i v'):v=v':=by
 obtain⟨⟨n,hn,rfl⟩,h2⟩:=h;obtain⟨⟨n',hn',rfl⟩,h2'⟩:=h';have:=h2 n' hn'; have:=h2' n hn; omega
theorem IsHi.uniq {ws:List W} {i:Nat} {v v':Int} (h:IsHi ws i v) (h':IsHi ws i v'):v=v':=by
 obtain⟨⟨n,hn,rfl⟩,h2⟩:=h;obtain⟨⟨n',hn',rfl⟩,h2'⟩:=h';have:=h2 n' hn'; have:=h2' n hn; omega
end Go.Am
