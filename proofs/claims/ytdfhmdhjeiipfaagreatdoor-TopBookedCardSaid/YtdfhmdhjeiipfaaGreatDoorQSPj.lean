/-
  The abstract machine: maps from which entries may be deleted.
  Conditions: none.
-/
import Derived.Test.YtdfhmdhjeiipfaaGreatDoorXCua
import Derived.Defers
import Derived.Lib.SliceRun
import Derived.Shelf.Strings.SlTrimAscii
import Derived.Shelf.LaysM
import Derived.Shelf.Strconv.Itoa3
import Derived.Shelf.Strings.Split
import Derived.Ground.Names2Prog
import Derived.Ground.SlgnProg
import Derived.Test.YtdfhmdhjeiipfaaGreatDoorProg
import Derived.Shelf.Strings.BuilderK
import Derived.Test.YtdfhmdhjeiipfaaGreatDoorCvm
import Derived.Lib.ConvBytes
import Derived.Laws.BytesString
import Derived.Test.YtdfhmdhjeiipfaaGreatDoorSPa
open Array renaming getElem?_toList → dS, getElem?_eq_getElem → dV, length_toList → fM, toList_extract → gB, toList_append → gD
open Bool renaming and_eq_true → fG, eq_iff_iff → fZ, false_eq_true → gJ, or_eq_true → gT
open Go.Builtin renaming clear_ → fY, delete_ → fK, len_ → gH, zeroCells → gR
open Go.Instr renaming mapUpdate → fJ, lookup → gG
open Go.MapKept renaming run_getObj_map → dR, run_setObj_map → dX
open Go.Result renaming andThen_ok → dO
open Go.Sem renaming run_bind → dY, run_pure → dQ
open Go.Shelf renaming Ren → fL
open Go.Utf8 renaming decode → fD
open Go.Value renaming int → fU
open List renaming getElem?_eq_getElem → dU, getElem?_eq_some_iff → dM, replicate → dN, getD_eq_getElem?_getD → dP, length_replicate → dT, getElem?_set_self → fA, toArray → fE, getElem?_append_right → fI, getElem?_cons_zero → fB, getElem?_map → fC, all_eq_true → fF, getElem?_toArray → fH, mem_range → fN, map_cons → fQ, extract_eq_take_drop → fR, range → fS, getElem?_append_left → fT, getElem?_cons_succ → fV, getElem?_replicate → fW, length_map → fX, getElem?_eraseIdx → gA, take_of_length_le → gE, take_append_drop → gI, getElem?_eq_none → gO, getElem?_append → gU, length_eraseIdx → gY, getElem?_set_ne → gC, length_append → gK, getElem?_take → gL, getElem?_drop → gM, getElem?_set → gP, mem_range'_1 → gQ, append_nil → gV, map_append → gW
open Nat renaming zero_le → dZ, le_refl → fP, add_zero → gN, zero_lt_one → gS
open Option renaming map_eq_some_iff → dW, map_some → fO
set_option maxRecDepth 99999
set_option maxHeartbeats 4000000
namespace Go.Am
theorem Tp {P:Program} {ρ:Operand→AV} {o:Oper} {h:AHeap} {t:TypeId} (ho:o.op = .makeMap t none):StepS P ρ o h (.mp h.next) (h.allocT (.dmap [])):=by
 refine⟨HGrow.allocT _ _,?_⟩;intro φ a w K Q hfr r _ hk;have hφ : φ h.next=none:=hfr h.next (fP _) az;obtain⟨r',tr⟩:=r.allocT hφ (.dmap []) (.map #[] 0) (fun φ' w' _ hw=>⟨#[],0,hw,rfl,by simp⟩);have hrun:(execOp a.eval o).run P w = .ok (.value (.map (some w.heap.size))) (w.alloc (.map #[] 0)):=by
  simp[execOp,ho,Instr.makeMap]
 exact wp_of_run hrun (hk _ _ _ tr r' (.mp _ _ _ _ (Emb.upd_same _ _ _)))
def Uf (h : AHeap) : AV → Option (List (AV × AV))
  | .nilm=>some []
  | .mp b=>match h.get b with
    | some (.obj _ (.dmap es))=>some es
    | _=>none
  | _=>none
def Wf (P:Program) (h:AHeap) (t:TypeId) (x key:AV) (ok:Bool):Option AV:=
  match Z8 P t,Uf h x with
  | some (kt,et),some es=>if Zm P kt key=true then
      match Zb P kt key es,Qc P et with
      | some r,some z=>some (match r with
        | some (_,v)=>if ok then .tup [v,.bool true] else v
        | none=>if ok then .tup [z,.bool false] else z)
      | _,_=>none
    else none
  | _,_=>none
theorem T4 {P:Program} {ρ:Operand→AV} {o:Oper} {h:AHeap} {t:TypeId} {x ix:Operand} {ok:Bool} {v:AV} (ho:o.op = .lookup t x ix ok) (hs:Wf P h t (ρ x) (ρ ix) ok=some v):ReadS P ρ o h v:=by
 intro φ w ev r hops;unfold Wf at hs;split at hs
 ·rename_i kt et es hm hes;split at hs
  ·rename_i hkey;split at hs
   ·rename_i fr z hf hz;simp only[Option.some.injEq] at hs;subst hs;have hx:=hops x aO;have hi:=hops ix aO;obtain⟨i,zv,hzi,hzv,hzr⟩:=Qs hz;have hzrun:(zeroValue et).run P w = .ok zv w:=by simp[zeroValue,typeInfo,hzi,hzv]
    have hu:=ZV hm
    obtain ⟨ms, hlen, hrel, hget⟩ : ∃ ms : Array MapEntry, es.length = ms.toList.length ∧ (∀ (j : Nat) y m, es[j]? = some y → ms.toList[j]? = some m → VRel φ y.1 m.key ∧ VRel φ y.2 m.val) ∧
        ((ev x = .map none∧ms = #[])∨∃ k n,ev x = .map (some k)∧w.heap[k]? = some (.map ms n)):=by
      unfold Uf at hes;split at hes
      · rename_i hρ;cases hes;rw[hρ] at hx;generalize hq:ev x=q at hx;cases hx;exact⟨#[],rfl,by simp,.inl ⟨rfl,rfl⟩⟩
      · rename_i b hρ;rw[hρ] at hx;generalize hq:ev x=q at hx;cases hx;rename_i k i' z' hφ;split at hes
        · rename_i F es' hg;cases hes;obtain⟨ms,n,h1,h2,h3⟩:=r.blk b k i' z' _ hφ hg aU;exact⟨ms,by simpa using h2,fun j y m hy hm=>h3 j y m hy aw,.inr ⟨k,n,rfl,h1⟩⟩
        · cases hes
      · cases hes
    obtain⟨cr,h1,h2,h3⟩:=XD (P:=P) hkey hi w es ms.toList fr hlen hrel hf;have hck:=Xe (P:=P) hkey hi ms.isEmpty w;have hrun:∀ (c:Value) (b:Bool),(match cr with|some (_,v)=>(v,true)|none=>(zv,false))=(c,b)→(gG t (ev x) (ev ix) ok).run P w = .ok (if ok then .tuple #[c,.bool b] else c) w:=by
     intro c b hcb;rcases hget with ⟨hq,rfl⟩|⟨k,n,hq,hw⟩
     ·have hcr:cr=none:=by
       cases cr with
       | none=>rfl
       | some p=>
        cases fr with
        | none=>exact h2 rfl
        | some p'=>obtain⟨_,_,_,_,h4,_⟩:=h3 p'.1 p'.2 rfl; simp at h4
      subst hcr;cases hcb;simp only[gG,dY,run_underlying hu,dO,hq,dQ,hck,h1,hzrun]
     ·simp only[gG,dY,run_underlying hu,dO,hq,dR hw,dQ,hck,h1]
      cases cr with
      | none=>cases hcb; simp only[dY,hzrun,dO,dQ]
      | some p=>obtain⟨p1,p2⟩:=p; cases hcb; simp only[dY,dQ,dO]
    cases fr with
    | none=>
     have hcr:=h2 rfl;subst hcr;have hrun:=hrun zv false rfl;have hop:(execOp ev o).run P w = .ok (.value (if ok then .tuple #[zv,.bool false] else zv)) w:=by simp only[execOp,ho,dY,hrun,dO,dQ]
     refine⟨_,hop,?_⟩
     cases ok with
     | true=>exact Xl (hzr φ) false
     | false=>exact hzr φ
    | some p=>
     obtain⟨i',v'⟩:=p;obtain⟨cv,m,rfl,h5,_,_,_⟩:=h3 i' v' rfl;have hrun:=hrun cv true rfl;have hop:(execOp ev o).run P w = .ok (.value (if ok then .tuple #[cv,.bool true] else cv)) w:=by simp only[execOp,ho,dY,hrun,dO,dQ]
     refine⟨_,hop,?_⟩
     cases ok with
     | true=>exact Xl h5 true
     | false=>exact h5
   cases hs
  cases hs
 cases hs
def aputD (P:Program) (h:AHeap) (t:TypeId) (x key val:AV):Option AHeap:=
  match Z8 P t,x with
  | some (kt,_),.mp b=>match h.get b with
    | some (.obj F (.dmap es))=>if Zm P kt key=true then
        (Zb P kt key es).map fun r=>h.set b (.obj F (.dmap (match r with|some (i,_)=>es.set i (key,val)|none=>es ++ [(key,val)])))
      else none
    | _=>none
  | _,_=>none
theorem WA {P:Program} {ρ:Operand→AV} {o:Oper} {h h':AHeap} {t:TypeId} {x ix y:Operand} (ho:o.op = .mapUpdate t x ix y) (hs:aputD P h t (ρ x) (ρ ix) (ρ y)=some h'):StepS P ρ o h (.tup []) h':=by
 unfold aputD at hs;split at hs
 ·rename_i kt et b hm hρ;split at hs
  ·rename_i F es hg;split at hs
   ·rename_i hkey;simp only[dW] at hs;obtain⟨fr,hf,rfl⟩:=hs;refine⟨HGrow.setT hg,?_⟩;intro φ a w K Q hfr r hops hk;have hx:=hops x aO;have hi:=hops ix aO;have hy:=hops y aO;have hu:=ZV hm;rw[hρ] at hx;generalize hq:a.eval x=q at hx;cases hx;rename_i k i' z' hφ;obtain⟨ms,cl,h1,h2,h3⟩:=r.blk b k i' z' _ hφ hg aU;obtain⟨cr,g1,g2,g3⟩:=XD (P:=P) hkey hi w es ms.toList fr bG (fun j y m hy hm=>h3 j y m hy aw) hf;have hck:=Xe (P:=P) hkey hi false w;have hst:=JP (P:=P) hkey hi w
    cases fr with
    | none=>
     have hcr:=g2 rfl;subst hcr;have hrun:(fJ t (a.eval x) (a.eval ix) (a.eval y)).run P w = .ok () (Q7 w k (.map (ms.push {key:=a.eval ix,val:=a.eval y,born:=cl}) (cl+1))):=by
      simp only[fJ,dY,run_underlying hu,dO,hq,dR h1,hck,g1,dX _ h1];rfl
     have hop:(execOp a.eval o).run P w = .ok .skip (Q7 w k (.map (ms.push {key:=a.eval ix,val:=a.eval y,born:=cl}) (cl+1))):=by simp only[execOp,ho,dY,hrun,dO,dQ]
     obtain⟨r',tr⟩:=r.setT hφ hg (.dmap (es ++ [(ρ ix,ρ y)])) (.map (ms.push {key:=a.eval ix,val:=a.eval y,born:=cl}) (cl+1)) (by
      intro w' hw';refine⟨ms.push {key:=a.eval ix,val:=a.eval y,born:=cl},cl+1,hw',by simp[h2],?_⟩;intro j p m hp hm;rw[gU] at hp;rw[Array.getElem?_push] at hm;split at hp;rename_i hj;rw[if_neg aA] at hm;exact h3 j p m hp hm;rename_i hj;have hj0:j=ms.size:=by
       have:=(dM.1 hp).1;simp at this; omega
      rw[if_pos hj0] at hm;cases hm;rw[show j - es.length=0 by omega] at hp;cases hp;exact⟨hi,hy⟩)
     exact X8 hop (hk φ _ _ tr r' (VRel.undef φ))
    | some p=>
     obtain⟨i,v⟩:=p;obtain⟨cv,m,rfl,g5,g6,g7,g8⟩:=g3 i v rfl;have hmi:ms[i]? = some m:=by simpa using g6
     have hrun:(fJ t (a.eval x) (a.eval ix) (a.eval y)).run P w = .ok () (Q7 w k (.map (ms.modify i fun e=>{e with key:=a.eval ix,val:=a.eval y}) cl)):=by
      simp only[fJ,dY,run_underlying hu,dO,hq,dR h1,hck,g1,hmi,fO,Option.getD_some,g7,hst,dX _ h1];rfl
     have hop:(execOp a.eval o).run P w = .ok .skip (Q7 w k (.map (ms.modify i fun e=>{e with key:=a.eval ix,val:=a.eval y}) cl)):=by simp only[execOp,ho,dY,hrun,dO,dQ]
     obtain⟨r',tr⟩:=r.setT hφ hg (.dmap (es.set i (ρ ix,ρ y))) (.map (ms.modify i fun e=>{e with key:=a.eval ix,val:=a.eval y}) cl) (by
      intro w' hw';refine⟨ms.modify i fun e=>{e with key:=a.eval ix,val:=a.eval y},cl,hw',by simp[h2],?_⟩;intro j p m' hp hm;rw[gP] at hp;rw[Array.getElem?_modify] at hm;by_cases hij:i=j;subst hij;rw[if_pos rfl] at hp hm;rw[hmi] at hm;cases hm;split at hp;cases hp;exact⟨hi,hy⟩;cases hp;rw[if_neg hij] at hp hm;exact h3 j p m' hp hm)
     exact X8 hop (hk φ _ _ tr r' (VRel.undef φ))
   cases hs
  cases hs
 cases hs
theorem T5 {P : Program} {ρ : Operand → AV} {o : Oper} {h : AHeap} {t : TypeId} {p : TypeId × TypeId} {x : Operand} {es : List (AV × AV)} (ho : o.op = .call { callee := .builtin .len, args := #[x], argTypes := #[t] })
    (hm:Z8 P t=some p) (hs:Uf h (ρ x)=some es):StepS P ρ o h (.int .i64 es.length) h:=by
 refine⟨HGrow.refl _,?_⟩;intro φ a w K Q hfr r hops hk;have hx:=hops x aW;have hu:=ZV hm;have hrun:(gH #[t] o.type #[a.eval x]).run P w = .ok (.int .i64 es.length) w:=by
  unfold Uf at hs;split at hs;rename_i hρ;cases hs;rw[hρ] at hx;generalize hq:a.eval x=q at hx;cases hx;simp[gH,run_underlying hu,goInt];rename_i b hρ;rw[hρ] at hx;generalize hq:a.eval x=q at hx;cases hx;rename_i k i' z' hφ;split at hs;rename_i F es' hg;cases hs;obtain⟨ms,n,h1,h2,h3⟩:=r.blk b k i' z' _ hφ hg aU;simp[gH,run_underlying hu,goInt,dR h1,h2];cases hs;cases hs
 have hop:(execOp a.eval o).run P w = .ok (.value (.int .i64 es.length)) w:=by
  simp[execOp,ho,resolve,invoke,builtin,hrun]
 exact wp_of_run hop (hk φ _ w (Trans.refl _ _ _) r (.int _ _))
def Ws (es : List (AV × AV)) : Option (Nat × AV) → List (AV × AV)
  | some (i,_)=>es.eraseIdx i
  | none=>es
theorem Rv {P : Program} {ρ : Operand → AV} {o : Oper} {h : AHeap} {t t' : TypeId} {p : TypeId × TypeId} {x ix : Operand} {b F : Nat} {es : List (AV × AV)} {fr : Option (Nat × AV)} (ho : o.op = .call { callee := .builtin .delete, args := #[x, ix], argTypes := #[t, t'] })
    (hm:Z8 P t=some p) (hρ : ρ x = .mp b) (hg:h.get b=some (.obj F (.dmap es))) (hkey:Zm P p.1 (ρ ix)=true) (hf:Zb P p.1 (ρ ix) es=some fr) :
    StepS P ρ o h (.tup []) (h.set b (.obj F (.dmap (Ws es fr)))):=by
 refine⟨HGrow.setT hg,?_⟩;intro φ a w K Q hfr r hops hk;have hx:=hops x aW;have hi:=hops ix aW;have hu:=ZV hm;rw[hρ] at hx;generalize hq:a.eval x=q at hx;cases hx;rename_i k i' z' hφ;obtain⟨ms,cl,h1,h2,h3⟩:=r.blk b k i' z' _ hφ hg aU;obtain⟨cr,g1,g2,g3⟩:=XD (P:=P) hkey hi w es ms.toList fr bG (fun j y m hy hm=>h3 j y m hy aw) hf;have hck:=Xe (P:=P) hkey hi ms.isEmpty w
 cases fr with
 | none=>
  have hcr:=g2 rfl;subst hcr;have hrun:(fK #[t,t'] o.type #[a.eval x,a.eval ix]).run P w = .ok (.tuple #[]) (Q7 w k (.map ms cl)):=by
   simp only[fK,dY,run_underlying hu,dO,fH,fB,fV,hq,dR h1,hck,g1,dX _ h1];rfl
  have hop:(execOp a.eval o).run P w = .ok (.value (.tuple #[])) (Q7 w k (.map ms cl)):=by
   simp[execOp,ho,resolve,invoke,builtin,hrun]
  obtain⟨r',tr⟩:=r.setT hφ hg (.dmap es) (.map ms cl) (fun w' hw'=>⟨ms,cl,hw',h2,h3⟩);exact wp_of_run hop (hk φ _ _ tr r' (VRel.undef φ))
 | some p=>
  obtain⟨i,v⟩:=p;obtain⟨cv,m,rfl,g5,g6,g7,g8⟩:=g3 i v rfl;have hrun:(fK #[t,t'] o.type #[a.eval x,a.eval ix]).run P w = .ok (.tuple #[]) (Q7 w k (.map (ms.eraseIdxIfInBounds i) cl)):=by
   simp only[fK,dY,run_underlying hu,dO,fH,fB,fV,hq,dR h1,hck,g1,dX _ h1];rfl
  have hop:(execOp a.eval o).run P w = .ok (.value (.tuple #[])) (Q7 w k (.map (ms.eraseIdxIfInBounds i) cl)):=by
   simp[execOp,ho,resolve,invoke,builtin,hrun]
  obtain⟨r',tr⟩:=r.setT hφ hg (.dmap (es.eraseIdx i)) (.map (ms.eraseIdxIfInBounds i) cl) (by
   intro w' hw';have hlt:i<ms.toList.length:=(dM.1 g6).1;have hlt':i<ms.size:=by simpa using hlt
   have htl:(ms.eraseIdxIfInBounds i).toList=ms.toList.eraseIdx i:=by
    unfold Array.eraseIdxIfInBounds;rw[dif_pos hlt'];exact Array.toList_eraseIdx
   have hsz:(ms.eraseIdxIfInBounds i).size=ms.size - 1:=by
    rw[←fM,htl,gY,if_pos hlt];simp
   refine⟨ms.eraseIdxIfInBounds i,cl,hw',?_,?_⟩;rw[hsz,gY,if_pos aA,h2];intro j y m' hy hm;rw[←dS,htl,gA] at hm;rw[gA] at hy;split at hy;rename_i hj; rw[if_pos hj] at hm; exact h3 j y m' hy aw;rename_i hj; rw[if_neg hj] at hm; exact h3 (j+1) y m' hy aw)
  exact wp_of_run hop (hk φ _ _ tr r' (VRel.undef φ))
abbrev dmapO (v:AV) (es:List (AV × AV)):Obj:=⟨v,0,Thing.enc (.dmap es),false⟩
def RdD (h:AHeap) (v:AV) (es:List (AV × AV)):Prop:=∃ b F,v = .mp b∧h.get b=some (.obj F (.dmap es))
theorem RdD.ext {h0 h:AHeap} (k:Keeps h0 h) {v:AV} {es:List (AV × AV)} (hr:RdD h0 v es):RdD h v es:=let⟨b,F,hv,hg⟩:=hr; ⟨b,F,hv,k.get_some hg⟩
theorem TR {es es':List (AV × AV)} (h:Thing.enc (.dmap es)=Thing.enc (.dmap es')):es=es':=by
 simp only[Thing.enc,List.cons.injEq,true_and] at h;exact Uy h
theorem Mu.dmap {lo:Nat} {h:AHeap} {F:Option Nat} {v:AV} {es:List (AV × AV)} (hv:Zp v) (hm:Mu lo h F (dmapO v es)):∃ b G f,F=some G∧lo≤b∧v = .mp b∧h.get b=some (.obj G (.dmap es))∧h.fam G=some f:=by
 obtain⟨b0,rfl⟩:=hv
 cases F with
 | none=>cases hm.1
 | some G=>
  rcases hm with ⟨b,off,p,cs,f,_,hw,_⟩|⟨b,x,f,h1,h2,h3,h4,h5,h6⟩
  rcases hw with ⟨_,_,hw,_⟩|⟨_,hw⟩ <;> cases hw
  ·cases x with
   | walk s pos=>cases h2
   | mwalk _ _ _=>cases h2
   | gone=>cases h2
   | map es'=>cases es' <;> simp[Thing.enc] at h6
   | dmap es'=>
    simp only[Thing.at,AV.mp.injEq] at h2;subst h2;have:=TR h6;subst this;exact⟨b0,G,f,rfl,h1,rfl,h4,h5⟩
theorem St.rdD {h0 h:AHeap} {objs:List Obj} (st:St h0 h objs) (k:Nat) {v:AV} {es:List (AV × AV)} (hk:objs[k]? = some (dmapO v es)) (hv:Zp v):RdD h v es:=by
 obtain⟨_,fs,h1,h2,_⟩:=st;have hlt:k<fs.length:=by rw[h1]; exact(dM.1 hk).1
 obtain⟨b,G,f,_,_,h3,h4,_⟩:=(h2 k _ _ hk (dU hlt)).dmap hv;exact⟨b,G,h3,h4⟩
theorem RdD.ents {h:AHeap} {v:AV} {es:List (AV × AV)} (hr:RdD h v es):Uf h v=some es:=by
 obtain⟨b,F,rfl,hg⟩:=hr;simp only[Uf,hg]
theorem St.setD {h0 h:AHeap} {objs:List Obj} (st:St h0 h objs) {i b G:Nat} {es es':List (AV × AV)} (hk:objs[i]? = some (dmapO (.mp b) es)) (hg:h.get b=some (.obj G (.dmap es))):St h0 (h.set b (.obj G (.dmap es'))) (objs.set i (dmapO (.mp b) es')):=by
 refine St.setT (x:=.dmap es) (x':=.dmap es') st hk (fun _=>rfl) rfl hg ?_;intro F hm;obtain⟨b',G',f,hF,hlo,hb',hg',hf⟩:=hm.dmap ⟨b,rfl⟩;cases hb';rw[hg] at hg'; cases hg';exact⟨hF,hlo,f,hf⟩
section maps
variable {κ ν:Type} [DecidableEq κ]
def Jg : List (κ × ν) → κ → List (κ × ν)
  | [],_=>[]
  | p::l,a=>if a=p.1 then l else p::Jg l a
theorem mdel_ent {P : Program} {kt : TypeId} {kf : κ → AV} {vf : ν → AV} [hk : KeyT P kt kf] (l : List (κ × ν)) (a : κ) :
    ∃ r,Zb P kt (kf a) (entL kf vf l)=some r∧Ws (entL kf vf l) r=entL kf vf (Jg l a):=by
 induction l with
 | nil=>exact⟨none,rfl,rfl⟩
 | cons p l ih=>
  obtain⟨r,h1,h3⟩:=ih;by_cases h:a=p.1;refine⟨some (0,vf p.2),?_,?_⟩;simp only[entL,fQ,Zb,hk.eq,h,decide_true];simp[Jg,h,Ws]
  ·refine⟨r.map fun q=>(q.1+1,q.2),?_,?_⟩;have h1':Zb P kt (kf a) (List.map (fun p=>(kf p.1,vf p.2)) l)=some r:=h1;simp only[entL,fQ,Zb,hk.eq,h,decide_false,h1',fO]
   ·simp only[Jg,if_neg h]
    cases r with
    | none=>simp only[Option.map_none,Ws] at h3⊢; simp only[entL,fQ] at h3⊢; rw[←h3]
    | some q=>simp only[fO,Ws] at h3⊢; simp only[entL,fQ,List.eraseIdx_cons_succ] at h3⊢; rw[h3]
variable {P:Program} {n:Nat} {ops:Array Oper} {ex:List Nat} {Q:KF→AHeap→Prop} {k:Nat} {os:List Oper} {K:KF} {h h0:AHeap} {d:Nat} {ty:TypeId} {pos:String} {after:Array Edge} {objs:List Obj}
theorem KOps.makeMapD {t:TypeId} (st:St h0 h objs) (hex:ex.contains k=false) (hk:∀ v h',Zp v→St h0 h' (dmapO v []::objs)→KOps P n ops ex Q (k+1) os ((d,v)::K) h'):KOps P n ops ex Q k (⟨some d,.makeMap t none,ty,pos,after,none⟩::os) K h:=
  KOps.chainS rfl hex (Tp rfl) (hk _ _ ⟨_,rfl⟩ (St.allocT st (.dmap [])))
theorem RdD.look {t kt : TypeId} {z : AV} {kf : κ → AV} {vf : ν → AV} {l : List (κ × ν)} {v : AV} [ht : MpT P t kt z] [hkt : KeyT P kt kf] (hr : RdD h v (entL kf vf l)) (a : κ) (ok : Bool) :
    Wf P h t v (kf a) ok=some (match OG l a with|some w=>if ok then .tup [vf w,.bool true] else vf w|none=>if ok then .tup [z,.bool false] else z):=by
 obtain⟨et,h1,h2⟩:=ht.mp;obtain⟨r,h3,h4,-⟩:=Yy (P:=P) (kt:=kt) (kf:=kf) (vf:=vf) l a;simp only[Wf,h1,hr.ents,hkt.ok,if_true,h3,h2]
 cases r with
 | none=>
  cases hm:OG l a with
  | none=>rfl
  | some w=>rw[hm] at h4; cases h4
 | some q=>
  cases hm:OG l a with
  | none=>rw[hm] at h4; cases h4
  | some w=>rw[hm] at h4; simp only[fO,Option.some.injEq] at h4; obtain⟨q1,q2⟩:=q; simp only at h4; subst h4; rfl
theorem KOps.lookD {t kt : TypeId} {z : AV} {kf : κ → AV} {vf : ν → AV} {l : List (κ × ν)} {v : AV} {x ix : Operand} {a : κ} [hx : EvK h.globs n K x v] (hi : KI h.globs n K ix = kf a) [ht : MpT P t kt z] [hkt : KeyT P kt kf] (hr : RdD h v (entL kf vf l))
    (hk:KOps P n ops ex Q (k+1) os ((d,match OG l a with|some w=>vf w|none=>z)::K) h):KOps P n ops ex Q k (⟨some d,.lookup t x ix false,ty,pos,after,none⟩::os) K h:=by
 refine KOps.readS rfl (T4 rfl ?_) hk;rw[hx.eq,hi,hr.look]
 cases OG l a <;> rfl
theorem KOps.lookDS {t kt : TypeId} {z : AV} {kf : κ → AV} {vf : ν → AV} {l : List (κ × ν)} {v : AV} {x ix : Operand} {a : κ} {w : ν} [hx : EvK h.globs n K x v] (hi : KI h.globs n K ix = kf a) [ht : MpT P t kt z] [hkt : KeyT P kt kf] (hr : RdD h v (entL kf vf l)) (hm : OG l a = some w)
    (hk:KOps P n ops ex Q (k+1) os ((d,vf w)::K) h):KOps P n ops ex Q k (⟨some d,.lookup t x ix false,ty,pos,after,none⟩::os) K h:=by
 refine KOps.lookD hi hr ?_;rw[hm]; exact hk
theorem KOps.lookDN {t kt : TypeId} {z : AV} {kf : κ → AV} {vf : ν → AV} {l : List (κ × ν)} {v : AV} {x ix : Operand} {a : κ} [hx : EvK h.globs n K x v] (hi : KI h.globs n K ix = kf a) [ht : MpT P t kt z] [hkt : KeyT P kt kf] (hr : RdD h v (entL kf vf l)) (hm : OG l a = none)
    (hk:KOps P n ops ex Q (k+1) os ((d,z)::K) h):KOps P n ops ex Q k (⟨some d,.lookup t x ix false,ty,pos,after,none⟩::os) K h:=by
 refine KOps.lookD hi hr ?_;rw[hm]; exact hk
theorem KOps.putD {t kt : TypeId} {z : AV} {kf : κ → AV} {vf : ν → AV} {l : List (κ × ν)} {v u : AV} {x ix y : Operand} {a : κ} {b : ν} {i : Nat} [hx : EvK h.globs n K x v] (hi : KI h.globs n K ix = kf a) [hy : EvK h.globs n K y u] (hu : u = vf b) [ht : MpT P t kt z] [hkt : KeyT P kt kf]
    (st:St h0 h objs) (hv:Zp v) (hk':objs[i]? = some (dmapO v (entL kf vf l))) (hex:ex.contains k=false)
    (hk:∀ h',St h0 h' (objs.set i (dmapO v (entL kf vf (Qr l a b))))→KOps P n ops ex Q (k+1) os K h'):KOps P n ops ex Q k (⟨none,.mapUpdate t x ix y,ty,pos,after,none⟩::os) K h:=by
 obtain⟨bb,G,rfl,hg⟩:=St.rdD st i hk' hv;obtain⟨et,h1,h2⟩:=ht.mp;obtain⟨r,h3,-,h4⟩:=Yy (P:=P) (kt:=kt) (kf:=kf) (vf:=vf) l a;have hput:aputD P h t (.mp bb) (kf a) (vf b)=some (h.set bb (.obj G (.dmap (entL kf vf (Qr l a b))))):=by
  simp only[aputD,h1,hg,hkt.ok,if_true,h3,fO];have h5:=h4 b
  cases r with
  | none=>simp only at h5⊢; rw[h5]
  | some q=>simp only at h5⊢; rw[h5]
 refine Zj (v:=.tup []) (h':=h.set bb (.obj G (.dmap (entL kf vf (Qr l a b))))) rfl hex (WA rfl ?_) (hk _ (St.setD st hk' hg));rw[hx.eq,hi,hy.eq,hu]; exact hput
theorem KOps.lenD {t kt : TypeId} {z : AV} {es : List (AV × AV)} {v : AV} {x : Operand} [hx : EvK h.globs n K x v] [ht : MpT P t kt z] (hr : RdD h v es) (hk : KOps P n ops TXT Q (k + 1) os ((d, .int .i64 es.length) :: K) h) (hlt : Nat.beq k 1000000 = false := by rfl) :
    KOps P n ops TXT Q k (⟨some d,.call {callee:=.builtin .len,args:=#[x],argTypes:=#[t]},ty,pos,after,none⟩::os) K h:=by
 obtain⟨et,h1,h2⟩:=ht.mp;exact Zu (T5 rfl h1 (by rw[hx.eq]; exact hr.ents)) hk hlt
theorem KOps.delD0 {t t' kt : TypeId} {z : AV} {kf : κ → AV} {vf : ν → AV} {l : List (κ × ν)} {v : AV} {x ix : Operand} {a : κ} {i : Nat} [hx : EvK h.globs n K x v] (hi : KI h.globs n K ix = kf a) [ht : MpT P t kt z] [hkt : KeyT P kt kf]
    (st:St h0 h objs) (hv:Zp v) (hk':objs[i]? = some (dmapO v (entL kf vf l))) (hex:ex.contains k=false)
    (hk:∀ h',St h0 h' (objs.set i (dmapO v (entL kf vf (Jg l a))))→KOps P n ops ex Q (k+1) os K h'):KOps P n ops ex Q k (⟨none,.call {callee:=.builtin .delete,args:=#[x,ix],argTypes:=#[t,t']},ty,pos,after,none⟩::os) K h:=by
 obtain⟨bb,G,rfl,hg⟩:=St.rdD st i hk' hv;obtain⟨et,h1,h2⟩:=ht.mp;obtain⟨r,h3,h4⟩:=mdel_ent (P:=P) (kt:=kt) (kf:=kf) (vf:=vf) l a;refine Zj rfl hex (Rv (p:=(kt,et)) rfl h1 hx.eq hg (by rw[hi]; exact hkt.ok a) (by rw[hi]; exact h3)) (hk _ ?_);rw[h4];exact St.setD st hk' hg
end maps
end Go.Am
namespace Go.Am
theorem Ev.stepI {P : Program} {ρ : Operand → AV} {o : Oper} {h h' : AHeap} {f : FuncId} {t : TypeId} {x r : AV} {recv : Operand} {name : String} {args : Array Operand} {tys : Array TypeId}
    (ho:o.op = .call {callee:=.invoke recv name,args:=args,argTypes:=tys}) (hg : ρ recv = .ifc t x) (hm:Yq P t name=some f) (hev:Ev P f (x::args.toList.map ρ) h r h'):SemStep P ρ o h r h':=by
 have hc:clsOf o.op = .chain:=by rw[ho]; rfl
 unfold SemStep;rw[hc];obtain⟨⟨fn,hf,hn,hb⟩,hgrow,hcalls⟩:=hev;refine⟨hgrow,?_⟩;intro φ a w K Q hfr rr hops hk;have hgv:=hops recv aW;rw[hg] at hgv;generalize hgc:a.eval recv=cg at hgv
 cases hgv with|ifc _ _ v hv=>
 have hmr:=methA_run hm v w;have hrun:(execOp a.eval o).run P w = .ok (.enter f ((v::args.toList.map a.eval).toArray)) w:=by
  have he:(#[a.eval recv] ++ args.map a.eval).extract 1 (#[a.eval recv] ++ args.map a.eval).size=args.map a.eval:=by
   apply Array.ext';simp only[gB,gD,Array.toList_map,fR,List.cons_append,List.nil_append,List.drop_succ_cons,List.drop_zero,Array.size_append,Array.size_map];refine gE ?_;simp
  have h0:(#[a.eval recv] ++ args.map a.eval)[0]? = some (.iface t v):=by
   rw[hgc,Array.getElem?_append_left gS];rfl
  have hcm:(callMethod (.iface t v) name (args.map a.eval)).run P w = .ok (.enter f (#[v] ++ args.map a.eval)) w:=by
   simp only[callMethod,dY,run_program,dO,hmr,callFunc,hf,hn,hb,gJ,if_false,dQ]
  simp only[execOp,ho,resolve,dY,dQ,dO,invoke,he,h0,hcm];congr 2;simp
 unfold Oper.wp;rw[hrun];refine(hcalls φ w _ hfr rr ?_).mono ?_
 ·refine VRels.append (l:=[x]) (cs:=[v]) ⟨rfl,?_⟩ ⟨by simp,?_⟩
  ·intro j y u hy hu
   cases j with
   | zero=>cases hy; cases hu; exact hv
   | succ j=>simp at hy
  intro j y u hy hu;rw[fC,dW] at hy hu;obtain⟨q,hq,rfl⟩:=hy;obtain⟨q',hq',rfl⟩:=hu;rw[hq] at hq'; cases hq';refine hops q ?_;simp[ho,Op.operands,Call.operands];exact .inr (Array.mem_of_getElem? (by simpa using hq))
 rintro e w' ⟨v,φ',rfl,t,r',hv⟩;exact hk φ' v w' t r' hv
section
variable {P:Program} {n:Nat} {ops:Array Oper} {ex:List Nat} {Q:KF→AHeap→Prop} {k:Nat} {os:List Oper} {K:KF} {h:AHeap} {d:Nat} {ty:TypeId} {pos:String} {after:Array Edge}
theorem KOps.callI {f : FuncId} {t : TypeId} {x : AV} {recv : Operand} {name : String} {l : List Operand} {vs : List AV} {tys : Array TypeId} {R : AV → AHeap → Prop} [hg : EvK h.globs n K recv (.ifc t x)] [hl : EvKs h.globs n K l vs] (hx : ex.contains k = false) (hm : Yq P t name = some f)
    (hc:ACalls P f (x::vs) h R) (hk:∀ r h',R r h'→KOps P n ops ex Q (k+1) os ((d,r)::K) h'):KOps P n ops ex Q k (⟨some d,.call {callee:=.invoke recv name,args:=fE l,argTypes:=tys},ty,pos,after,none⟩::os) K h:=by
 obtain⟨r,h',hev,hR⟩:=hc;refine Zf (v:=r) (h':=h') ?_ (fun hc=>by rw[hx] at hc; cases hc) (hk r h' hR);refine Ev.stepI (recv:=recv) (args:=fE l) (tys:=tys) rfl hg.eq hm ?_;rw[List.toList_toArray,hl.eq];exact hev
instance instNili (globs:List Nat) (n:Nat) (K:KF):EvK globs n K (.const .nilIface) .nili:=⟨rfl⟩
theorem Kw {t:TypeId} {x:Operand} {v:AV} [hx:EvK h.globs n K x v] (hc:Wn P t=true) (hk:KOps P n ops ex Q (k+1) os ((d,.ifc t v)::K) h):KOps P n ops ex Q k (⟨some d,.makeInterface t x,ty,pos,after,none⟩::os) K h:=by
 refine O9 (v:=.ifc t v) rfl ?_ hk;simp only[apure];rw[hx.eq,if_pos hc]
theorem KOps.makeFmeth {x:Operand} {v:AV} {name:String} [hx:EvK h.globs n K x v] (hk:KOps P n ops ex Q (k+1) os ((d,.fmeth name v)::K) h):KOps P n ops ex Q k (⟨some d,.makeFunc (.method name) #[x] #[],ty,pos,after,none⟩::os) K h:=by
 refine O9 (v:=.fmeth name v) rfl ?_ hk;show some (AV.fmeth name (KI h.globs n K x))=_;rw[hx.eq]
theorem KOps.nilMeth {x:Operand} {name:String} {t:TypeId} {y:AV} [hx:EvK h.globs n K x (.fmeth name (.ifc t y))] (hm:(Yq P t name).isSome=true) (hk:KOps P n ops ex Q (k+1) os ((d,.fmeth name (.ifc t y))::K) h):KOps P n ops ex Q k (⟨some d,.nilCheck x,ty,pos,after,none⟩::os) K h:=by
 refine O9 (v:=.fmeth name (.ifc t y)) rfl ?_ hk;simp only[apure];rw[hx.eq];simp only[hm,if_true]
end
end Go.Am
namespace Go.Am
def IsDef (φ:Emb) (g:FuncId) (caps:List AV) (d:Deferred):Prop:=∃ cs:List Value,d=⟨.fn (.func g) cs.toArray,#[]⟩∧VRels φ caps cs
def DW (P:Program) (g:FuncId) (c:Code) (Q:List AV→Ex→List AV→AHeap→Prop) (fr:List AV) (h:AHeap):Prop:=
  ∃ e fr' h' caps, (HGrow h h' ∧ ∀ (φ : Emb) (a : Act) (w : World), Fresh φ h h' → Sim [] φ fr h a w →
    c.wp P (fun e' a' w'=>e'=e.toExit∧∃ φ' d,Trans φ h w φ' h' w'∧Sim [d] φ' fr' h' a' w'∧IsDef φ' g caps d) a w)∧Q caps e fr' h'
theorem DW.seqA {P:Program} {g:FuncId} {c d:Code} {Q:List AV→Ex→List AV→AHeap→Prop} {fr:List AV} {h:AHeap} (hw:AW P c (fun e fr h=>e = .normal∧DW P g d Q fr h) fr h):DW P g (.seq c d) Q fr h:=by
 obtain⟨e,fr1,h1,⟨g1,hx1⟩,he,hq1⟩:=hw;subst he;obtain⟨e2,fr2,h2,caps,⟨g2,hx2⟩,hq2⟩:=hq1;refine⟨e2,fr2,h2,caps,⟨g1.trans g2,?_⟩,hq2⟩;intro φ a w hfr s;refine wp_seq (wp_mono (hx1 φ a w (hfr.left g2) s) ?_);rintro e' a' w' ⟨rfl,φ1,t1,s1⟩;show d.wp P _ a' w';refine wp_mono (hx2 φ1 a' w' (hfr.right g1 t1) s1) ?_;rintro e'' a'' w'' ⟨rfl,φ2,dd,t2,s2,hd⟩;exact⟨rfl,φ2,dd,t1.trans hfr g1 g2 t2,s2,hd⟩
theorem DW.seqD {P:Program} {g:FuncId} {c d:Code} {Q:List AV→Ex→List AV→AHeap→Prop} {fr:List AV} {h:AHeap} (hw:DW P g c (fun caps e fr h=>e = .normal∧AW P d (Q caps) fr h) fr h):DW P g (.seq c d) Q fr h:=by
 obtain⟨e,fr1,h1,caps,⟨g1,hx1⟩,he,hq1⟩:=hw;subst he;obtain⟨e2,fr2,h2,⟨g2,hx2⟩,hq2⟩:=hq1;refine⟨e2,fr2,h2,caps,⟨g1.trans g2,?_⟩,hq2⟩;intro φ a w hfr s;refine wp_seq (wp_mono (hx1 φ a w (hfr.left g2) s) ?_);rintro e' a' w' ⟨rfl,φ1,dd,t1,s1,cs,hd,hv⟩;show d.wp P _ a' w';refine wp_mono (hx2 φ1 a' w' (hfr.right g1 t1) s1) ?_;rintro e'' a'' w'' ⟨rfl,φ2,t2,s2⟩;exact⟨rfl,φ2,dd,t1.trans hfr g1 g2 t2,s2,cs,hd,hv.mono t2.le⟩
theorem DW.defer {P : Program} {g : FuncId} {id t : Nat} {ty ty2 : TypeId} {pos pos2 : String} {after after2 : Array Edge} {tys : Array TypeId} {l : List Operand} {Q : List AV → Ex → List AV → AHeap → Prop} {fr : List AV} {h : AHeap} (ht : t < fr.length)
    (hq:Q (l.map (evalA h.globs fr)) .normal (fr.set t (.fn g (l.map (evalA h.globs fr)))) h) :
    DW P g (.region id #[⟨some t,.makeFunc (.func g) #[] (fE l),ty,pos,after,none⟩,⟨none,.defer {callee:=.value (.tmp t),args:=#[],argTypes:=tys},ty2,pos2,after2,none⟩] false) Q fr h:=by
 refine⟨.normal,_,h,_,⟨HGrow.refl h,?_⟩,hq⟩;intro φ a w _ s;refine wp_region ?_;have hv:VRel φ (.fn g (l.map (evalA h.globs fr))) (.func (.func g) #[] (l.map a.eval).toArray):=by
  refine .fn _ _ _ aN ?_;intro j x y hx hy;rw[fC,dW] at hx hy;obtain⟨o,ho,rfl⟩:=hx;obtain⟨o',ho',rfl⟩:=hy;rw[ho] at ho';cases ho';exact evalA_rel s.heap s.fr o
 have hts:t<a.tmps.size:=by rw[←s.fr.2.1]; exact ht
 have hev:(a.put (some t) (.func (.func g) #[] (l.map a.eval).toArray)).eval (.tmp t) = .func (.func g) #[] (l.map a.eval).toArray:=by
  simp[Act.eval,Act.put,Array.getD_eq_getD_getElem?,hts]
 have e1:(execOp a.eval ⟨some t,.makeFunc (.func g) #[] (fE l),ty,pos,after,none⟩).run P w = .ok (.value (.func (.func g) #[] (l.map a.eval).toArray)) w:=by
  simp[execOp,Instr.makeFunc]
 have e2:(execOp (a.put (some t) (.func (.func g) #[] (l.map a.eval).toArray)).eval ⟨none,.defer {callee:=.value (.tmp t),args:=#[],argTypes:=tys},ty2,pos2,after2,none⟩).run P w = .ok (.defer ⟨.fn (.func g) (l.map a.eval).toArray,#[]⟩) w:=by
  simp[execOp,resolve,hev,Deferred.ofValue]
 have hr:fS 2 = [0,1]:=rfl;show wpOps P _ _ (fS 2) a w;rw[hr];simp only[wpOps];refine .inl ?_;show Oper.upon P (⟨some t,.makeFunc (.func g) #[] (fE l),ty,pos,after,none⟩:Oper) a _ _ ((execOp a.eval (⟨some t,.makeFunc (.func g) #[] (fE l),ty,pos,after,none⟩:Oper)).run P w);rw[e1,Oper.upon_value];refine .inl ?_;show Oper.upon P (⟨none,.defer {callee:=.value (.tmp t),args:=#[],argTypes:=tys},ty2,pos2,after2,none⟩:Oper) _ _ _ ((execOp (a.put (some t) (.func (.func g) #[] (l.map a.eval).toArray)).eval (⟨none,.defer {callee:=.value (.tmp t),args:=#[],argTypes:=tys},ty2,pos2,after2,none⟩:Oper)).run P w);rw[e2,Oper.upon_defer];show _∧_;refine⟨rfl,φ,⟨.fn (.func g) (l.map a.eval).toArray,#[]⟩,Trans.refl φ h w,⟨s.heap,?_⟩,l.map a.eval,rfl,by simp,?_⟩;have hp:=s.fr.put (some t) hv;refine⟨?_,hp.2.1,hp.2.2⟩;show _::_=_;rw[show(a.put (some t) (.func (.func g) #[] (l.map a.eval).toArray)).defers=a.defers from rfl,s.fr.1];intro j x y hx hy;rw[fC,dW] at hx hy;obtain⟨o,ho,rfl⟩:=hx;obtain⟨o',ho',rfl⟩:=hy;rw[ho] at ho';cases ho';exact evalA_rel s.heap s.fr o
def ABody (P:Program) (f:FuncId) (args:List AV) (h:AHeap) (R:AV→AHeap→Prop):Prop:=
  ∃ fn c,P.funcs[f]? = some fn∧fn.body=some c∧(fn.name == "runtime.NumGoroutine")=false∧AW P c (fun e fr' h'=>(e = .normal∨e = .ret)∧∃ x,Z4 fr' fn.results.toList=some x∧R x h') (Q6 args fn.ntmps) h
theorem ABody.mono {P:Program} {f:FuncId} {args:List AV} {h:AHeap} {R R':AV→AHeap→Prop} (hb:ABody P f args h R) (hr:∀ r h',R r h'→R' r h'):ABody P f args h R':=by
 obtain⟨fn,c,h1,h2,h3,hw⟩:=hb;exact⟨fn,c,h1,h2,h3,AW.mono hw fun e fr h ⟨he,x,hx,q⟩=>⟨he,x,hx,hr _ _ q⟩⟩
theorem Sim.enter {φ:Emb} {args:List AV} {cs:List Value} {n:Nat} {h:AHeap} {w:World} (r:HRel φ h w) (hargs:VRels φ args cs):Sim [] φ (Q6 args n) h {tmps:=cs.toArray ++ Array.replicate (n - cs.toArray.size) undef,defers:=[]} w:=by
 refine⟨r,rfl,?_,?_⟩;simp[Q6,hargs.1];intro t y v hy hv;simp only[Q6] at hy;rw[←dS] at hv;simp only[gD,Array.toList_replicate] at hv;rw[gU] at hy hv;rw[hargs.1] at hy;split at hy;rename_i hlt;rw[if_pos hlt] at hv;exact hargs.2 t y v hy hv;rename_i hlt;rw[if_neg hlt] at hv;rw[fW] at hy hv;split at hy;cases hy;split at hv
 cases hv; exact VRel.undef φ
 cases hv;cases hy
theorem ACalls.of_defer {P : Program} {f g : FuncId} {fn : Func} {c : Code} {args : List AV} {h : AHeap} {R : AV → AHeap → Prop} (hf : P.funcs[f]? = some fn) (hb : fn.body = some c) (hn : (fn.name == "runtime.NumGoroutine") = false)
    (hw:DW P g c (fun caps e fr' h'=>(e = .normal∨e = .ret)∧∃ x,Z4 fr' fn.results.toList=some x∧ABody P g caps h' (fun _ h''=>R x h'')) (Q6 args fn.ntmps) h):ACalls P f args h R:=by
 obtain⟨e,fr',h',caps,⟨g1,hx⟩,he,x,hr,fn2,c2,hf2,hb2,hn2,e2,fr2,h2,⟨g2,hx2⟩,he2,x2,hr2,hR⟩:=hw;refine⟨x,h2,⟨⟨fn,hf,hn,by rw[hb]; rfl⟩,g1.trans g2,?_⟩,hR⟩;intro φ w cs hfr r hargs;refine calls_of_wp_defers hf hb ?_;refine wp_mono (hx φ _ w (hfr.left g2) (Sim.enter r hargs)) ?_;rintro e' a' w' ⟨rfl,φ1,d,t1,s1,cs1,hd,hv1⟩;subst hd;obtain⟨v,hv,hrel⟩:=YR (P:=P) s1.fr w' hr;have key:Leaves P fn a'.tmps (fun e w'=>∃ v φ',e=Ending.returned v∧Trans φ h w φ' h2 w'∧HRel φ' h2 w'∧VRel φ' x v) a'.defers .returning w':=by
  rw[s1.fr.1];refine leaves_cons (f:=g) (args:=cs1.toArray) (by nofun) ?_ ?_;simp only[invoke,callFunc,dY,run_program,dO,hf2,hn2,hb2,gJ,if_false];simp;refine CallsD.mono (callsD_of_wp (R:=fun e w''=>∃ v φ',e=Ending.returned v∧Trans φ h w φ' h2 w''∧HRel φ' h2 w''∧φ1.le φ') hf2 hb2 ?_) ?_;refine wp_mono (hx2 φ1 _ w' (hfr.right g1 t1) (Sim.enter s1.heap hv1)) ?_;rintro e' a2 w2 ⟨rfl,φ2,t2,s2⟩;obtain⟨v2,hv2,hrel2⟩:=YR (P:=P) s2.fr w2 hr2;have hT:=t1.trans hfr g1 g2 t2;rcases he2 with rfl|rfl
  exact⟨s2.fr.1,v2,hv2,v2,φ2,rfl,hT,s2.heap,t2.le⟩;exact⟨s2.fr.1,v2,hv2,v2,φ2,rfl,hT,s2.heap,t2.le⟩;rintro e' u' w2 ⟨rfl,v2,φ2,rfl,hT,hh,hle⟩;show Leaves P fn a'.tmps _ [] (settle .returning) w2;obtain⟨v3,hv3,hrel3⟩:=YR (P:=P) s1.fr w2 hr;exact⟨v3,hv3,v3,φ2,rfl,hT,hh,hrel3.mono hle⟩
 rcases he with rfl|rfl
 exact key;exact key
def KD (P:Program) (n:Nat) (g:FuncId) (c:Code) (Q:List AV→Ex→KF→AHeap→Prop) (K:KF) (h:AHeap):Prop:=DW P g c (fun caps e fr h=>∃ K',fr=KG n K'∧Q caps e K' h) (KG n K) h
def sqD (P:Program) (n:Nat) (g:FuncId) (d:Code) (Q:List AV→Ex→KF→AHeap→Prop) (e:Ex) (K:KF) (h:AHeap):Prop:=e = .normal∧KD P n g d Q K h
section
variable {P:Program} {n:Nat} {g:FuncId} {Q:List AV→Ex→KF→AHeap→Prop} {K:KF} {h:AHeap}
theorem KD.seq {c d:Code} (hw:KA P n c (sqD P n g d Q) K h):KD P n g (.seq c d) Q K h:=by
 refine DW.seqA (AW.mono hw ?_);rintro e fr h ⟨K,rfl,he,q⟩;exact⟨he,q⟩
theorem sqD.normal {d:Code} (hq:KD P n g d Q K h):sqD P n g d Q .normal K h:=⟨rfl,hq⟩
theorem KD.defer {d : Code} {id t : Nat} {ty ty2 : TypeId} {pos pos2 : String} {after after2 : Array Edge} {tys : Array TypeId} {l : List Operand} {vs : List AV} [hl : EvKs h.globs n K l vs] (ht : Nat.blt t n = true)
    (hk:KA P n d (Q vs) ((t,.fn g vs)::K) h) :
    KD P n g (.seq (.region id #[⟨some t,.makeFunc (.func g) #[] (fE l),ty,pos,after,none⟩,⟨none,.defer {callee:=.value (.tmp t),args:=#[],argTypes:=tys},ty2,pos2,after2,none⟩] false) d) Q K h:=by
 refine DW.seqD (DW.defer (by rw[Qh]; exact Nat.blt_eq ▸ ht) ⟨rfl,?_⟩);have hm:l.map (evalA h.globs (KG n K))=vs:=by
  rw[←hl.eq];exact List.map_congr_left fun x _=>by rw[ZU]
 rw[hm,ZA];exact hk
def fnD (P:Program) (n:Nat) (g:FuncId) (rs:List ResultVar) (R:AV→AHeap→Prop) (caps:List AV) (e:Ex) (K:KF) (h:AHeap):Prop:=(e = .normal∨e = .ret)∧∃ l,Jo n K rs=some l∧ABody P g caps h (fun _ h'=>R (Xk l) h')
theorem fnD.ret1 {R:AV→AHeap→Prop} {rs:List ResultVar} {v:AV} {caps:List AV} [hr:ResL n K rs [v]] (hR:ABody P g caps h (fun _ h'=>R v h')):fnD P n g rs R caps .ret K h:=⟨.inr rfl,_,hr.eq,hR⟩
theorem KD.fn {f : FuncId} {fn : Func} {c : Code} {args : List AV} {R : AV → AHeap → Prop} (n : Nat) (rs : List ResultVar) (hf : P.funcs[f]? = some fn) (hb : fn.body = some c) (hn : (fn.name == "runtime.NumGoroutine") = false)
    (h1:fn.ntmps=n) (h2:fn.results.toList=rs) (hle:args.length≤n) (hw:KD P n g c (fnD P n g rs R) (Y2 0 args) h):ACalls P f args h R:=by
 subst h1 h2;refine ACalls.of_defer (g:=g) hf hb hn ?_;obtain⟨e,fr',h',caps,⟨g1,hx⟩,K,rfl,he,l,hl,hR⟩:=hw;refine⟨e,_,h',caps,⟨g1,fun φ a w hfr s=>hx φ a w hfr ⟨s.heap,s.fr.args hle⟩⟩,he,Xk l,?_,hR⟩;rw[Z4,JX,hl];rfl
theorem KA.fnB {f : FuncId} {fn : Func} {c : Code} {args : List AV} {R : AV → AHeap → Prop} (n : Nat) (rs : List ResultVar) (hf : P.funcs[f]? = some fn) (hb : fn.body = some c) (hn : (fn.name == "runtime.NumGoroutine") = false)
    (h1:fn.ntmps=n) (h2:fn.results.toList=rs) (hle:args.length≤n) (hw:KA P n c (fnQ n rs R) (Y2 0 args) h):ABody P f args h R:=by
 subst h1 h2;obtain⟨e,fr',h',⟨g1,hx⟩,K,rfl,he,l,hl,hR⟩:=hw;refine⟨fn,c,hf,hb,hn,e,_,h',⟨g1,fun φ a w hfr s=>hx φ a w hfr ⟨s.heap,s.fr.args hle⟩⟩,he,Xk l,?_,hR⟩;rw[Z4,JX,hl];rfl
end
end Go.Am
namespace Go.Am
def XZ : AV → Nat
  | .slc b _ _ _ _=>b
  | .ptr b _=>b
  | _=>0
theorem blkV_mk (mk:Mk) (b:Nat):XZ (mk.val b)=b:=by cases mk <;> rfl
theorem AW.region_drawSA {P : Program} {id c r j t a d e : Nat} {ops : Array Oper} {l0 l1 l2 : List Oper} {ex : List Nat} {sz : Nat} {o oj : Oper} {Q : Ex → List AV → AHeap → Prop} {fr : List AV} {h : AHeap} (hm : P.follows .mixedOrders = true) (hl : ops.toList = l0 ++ (l1 ++ l2)) (hj : l0.length = j + 1) (hc : l1.length = c - j)
    (hok:RgOk sz ops ex [(c,r),(c,j)]) (hsz:fr.length=sz) (hrc:r<j) (hjc:j<c) (ho:ops[r]? = some o) (hop:o.op = .load t (.tmp a)) (hod:o.dst=some d) (hdz:d<sz) (hno:∀ i (oi:Oper),r≤i→i≤c→ops[i]? = some oi→oi.dst≠some a∧(r<i→oi.dst≠some d))
    (hoj:ops[j]? = some oj) (hjg:oj.guard=none) (hjc2:clsOf oj.op = .allo) (hjd:oj.dst=some e) (hez:e<sz) (hmid:∀ i (oi:Oper),j<i→i<c→ops[i]? = some oi→clsOf oi.op = .pure∨clsOf oi.op = .read)
    (hw:AOps P ops ex (fun fr0 h0=>AOps P ops ex (fun fr1 h1=>KV P h1 t (fr1.getD a .bot)=some (fr1.getD d .bot)∧h1.get (XZ (fr0.getD e .bot))=h0.get (XZ (fr0.getD e .bot))∧AOps P ops ex (Q .normal) (c+1) l2 fr1 h1) (j+1) l1 fr0 h0) 0 l0 fr h):AW P (.region id ops true) Q fr h:=by
 have hsize:ops.size=l0.length+(l1.length+l2.length):=by rw[←fM,hl,gK,gK]
 have g0:∀ i,i<l0.length→l0[i]? = ops[0+i]?:=by
  intro i hi;rw[Nat.zero_add,←dS,hl,fT hi]
 have g1:∀ i,i<l1.length→l1[i]? = ops[j+1+i]?:=by
  intro i hi;rw[←dS,hl,fI aA,hj,Nat.add_sub_cancel_left,fT hi]
 have g2:∀ i,l2[i]? = ops[c+1+i]?:=by
  intro i;rw[←dS,hl,fI aA,fI aA];congr 1;omega
 obtain⟨ws1,fs1,ks1,a1,a2,hKA,hallA⟩:=aops_textP hok.ntx l0 0 fr h g0 hw;simp only[Nat.zero_add,hj] at hKA hallA;obtain⟨ws2,fs2,ks2,b1,b2,⟨hchkB,hchkC,hKB⟩,hallB⟩:=aops_textP hok.ntx l1 (j+1) _ _ g1 hKA;rw[show j+1+l1.length=c+1 by omega] at hchkB hchkC hKB hallB;obtain⟨vs1,frs1,hs1,e1,e2,hchk,hchk2,hK1,hall1⟩:∃ (vs:Nat→AV) (frs:Nat→List AV) (hs:Nat→AHeap),frs 0=fr∧hs 0=h∧KV P (hs (c+1)) t ((frs (c+1)).getD a .bot)=some ((frs (c+1)).getD d .bot)∧(hs (c+1)).get (XZ ((frs (j+1)).getD e .bot))=(hs (j+1)).get (XZ ((frs (j+1)).getD e .bot))∧AOps P ops ex (Q .normal) (c+1) l2 (frs (c+1)) (hs (c+1))∧∀ i o,0≤i→i<c+1→ops[i]? = some o→TS P ops ex i o (frs i) (hs i) (vs i) (frs (i+1)) (hs (i+1)):=by
  refine⟨fun i=>if i≤j then ws1 i else ws2 i,fun i=>if i≤j then fs1 i else fs2 i,fun i=>if i≤j then ks1 i else ks2 i,by simp[a1],by simp[a2],?_,?_,?_,?_⟩;simp only[if_neg (show¬ c+1≤j by omega)]; exact hchkB;simp only[if_neg (show¬ c+1≤j by omega),if_neg (show¬ j+1≤j by omega),b1,b2]; exact hchkC;simp only[if_neg (show¬ c+1≤j by omega)]; exact hKB;intro i oi _ hi hoi;by_cases h1:i≤j;have ht:=hallA i oi (dZ _) aA hoi;by_cases h2:i+1≤j;simp only[if_pos h1,if_pos h2]; exact ht;have h3:i=j:=by omega
  subst h3;simp only[if_pos h1,if_neg h2,b1,b2];exact ht;simp only[if_neg h1,if_neg (show¬ i+1≤j by omega)];exact hallB i oi aA aA hoi
 obtain⟨vs2,frs2,hs2,e3,e4,hK2,hall2⟩:=aops_text hok.ntx l2 (c+1) _ _ g2 hK1;have hlen:∀ i,i≤c+1→(frs1 i).length=sz:=by
  intro i
  induction i with
  | zero=>intro _; rw[e1]; exact hsz
  | succ i ih=>
   intro hi;have ht:=hall1 i _ (dZ _) aA (dV aA);rw[ht.1];unfold setF;split;rw[List.length_set]; exact ih aA;exact ih aA
 have hget:∀ (l:List AV) (dst:Option Tmp) (v:AV) (x:Nat),dst≠some x→(setF l dst v).getD x .bot=l.getD x .bot:=by
  intro l dst v x hx;unfold setF;split;rename_i y;rw[dP,dP,gC (by rintro rfl; exact hx rfl)];rfl
 have ha:∀ i,r≤i→i≤c+1→(frs1 i).getD a .bot=(frs1 r).getD a .bot:=by
  intro i h1
  induction i with
  | zero=>intro _; rw[show r=0 by omega]
  | succ i ih=>
   intro h2;rcases Nat.lt_or_eq_of_le h1 with h3|h3
   have ho2:=dV (xs:=ops) (i:=i) aA;have ht:=hall1 i _ (dZ _) aA ho2;rw[ht.1,hget _ _ _ _ (hno i _ aA aA ho2).1,ih aA aA];rw[←h3]
 have hd:∀ i,r<i→i≤c+1→(frs1 i).getD d .bot=vs1 r:=by
  intro i h1
  induction i with
  | zero=>omega
  | succ i ih=>
   intro h2;have ho2:=dV (xs:=ops) (i:=i) aA;have ht:=hall1 i _ (dZ _) aA ho2;rw[ht.1];by_cases hir:i=r;subst hir;rw[ho2] at ho;cases ho;rw[hod];simp only[setF];rw[dP,fA (by rw[hlen i aA]; exact hdz)];rfl;rw[hget _ _ _ _ ((hno i _ aA aA ho2).2 aA)];exact ih aA aA
 have hblk:XZ ((frs1 (j+1)).getD e .bot)=(hs1 j).next:=by
  have ht:=hall1 j oj (dZ _) aA hoj;rw[ht.1,hjd];simp only[setF];rw[dP,fA (by rw[hlen j aA]; exact hez)];rcases ht.2 with ⟨_,_,_,h1,_⟩|⟨_,hs,_⟩
  rw[hjg] at h1; cases h1;unfold SemStep at hs;rw[hjc2] at hs;obtain⟨mk,cs,_,hv,_⟩:=hs;rw[hv];exact blkV_mk mk _
 have hsame:∀ i,j<i→i≤c→hs1 i=hs1 (j+1):=by
  intro i h1
  induction i with
  | zero=>omega
  | succ i ih=>
   intro h2;by_cases hij:i=j;rw[hij];have hoi:=dV (xs:=ops) (i:=i) aA;have ht:=hall1 i _ (dZ _) aA hoi;rw[←ih aA aA];rcases ht.2 with ⟨_,_,_,_,_,_,_,h3⟩|⟨_,hs,_⟩
   exact h3;unfold SemStep at hs;rcases hmid i _ aA aA hoi with h3|h3
   rw[h3] at hs; exact hs.2;rw[h3] at hs; exact hs.2
 have hstA:(hs1 (c+1)).get (hs1 j).next=(hs1 c).get (hs1 j).next:=by
  rw[←hblk,hchk2,hsame c hjc (fP _)]
 refine AW.region_run hm hok hsz (vs:=fun i=>if i≤c then vs1 i else vs2 i) (frs:=fun i=>if i≤c then frs1 i else frs2 i) (hs:=fun i=>if i≤c then hs1 i else hs2 i) (by simp[e1]) (by simp[e2]) ?_ ?_ ?_ ?_;simp only[if_neg (show¬ ops.size≤c by omega)];rw[show ops.size=c+1+l2.length by omega];exact hK2;intro i oi hi hoi;by_cases h1:i≤c;have ht:=hall1 i oi (dZ _) aA hoi;by_cases h2:i+1≤c;simp only[if_pos h1,if_pos h2]; exact ht;have h3:i=c:=by omega
 subst h3;simp only[if_pos h1,if_neg h2,e3,e4];exact ht;simp only[if_neg h1,if_neg (show¬ i+1≤c by omega)];exact hall2 i oi aA aA hoi;intro c' r' o' hcr _ ho' hcl;have hcr':(c'=c∧r'=r)∨(c'=c∧r'=j):=by simpa using hcr
 rcases hcr' with ⟨rfl,rfl⟩|⟨rfl,rfl⟩
 rw[ho] at ho';cases ho';rw[if_pos (show r'<c' by omega)];simp only[if_neg (show¬ c'+1≤c' by omega),if_pos (show r'≤c' by omega),e4];rw[hop];show KV P _ t ((frs1 r').getD a .bot)=_;rw[←ha (c'+1) aA (fP _),←hd (c'+1) aA (fP _)];exact hchk;rw[hoj] at ho';cases ho';rw[hjc2] at hcl; cases hcl;intro c' j' o' hcr _ ho' hcl;have hcr':(c'=c∧j'=r)∨(c'=c∧j'=j):=by simpa using hcr
 rcases hcr' with ⟨rfl,rfl⟩|⟨rfl,rfl⟩
 rw[ho] at ho';cases ho';rw[hop] at hcl; cases hcl;simp only[if_neg (show¬ c'+1≤c' by omega),if_pos (fP c'),if_pos (show j'≤c' by omega),e4];exact hstA
section
variable {P:Program} {n:Nat} {Q:Ex→KF→AHeap→Prop} {K:KF} {h:AHeap}
theorem KA.drawSA {id c r j t a d e : Nat} {ops : Array Oper} {l0 l1 l2 : List Oper} {o oj : Oper} (ex : List Nat) (hm : P.follows .mixedOrders = true) (hl0 : ops.toList.take (j + 1) = l0) (hl1 : (ops.toList.drop (j + 1)).take (c - j) = l1) (hl2 : (ops.toList.drop (j + 1)).drop (c - j) = l2) (hj : l0.length = j + 1) (hc : l1.length = c - j) (hok : rgOk n ops.toList ex [(c, r), (c, j)] = true)
    (ho:ops[r]? = some o) (hop:o.op = .load t (.tmp a)) (hod:o.dst=some d) (hdz:d<n) (hrc:r<j) (hjc:j<c)
    (hno:((List.range' r (c+1 - r)).all fun j=>match ops[j]? with|some oj=>oj.dst != some a && (j == r || oj.dst != some d)|none=>true)=true)
    (hoj:ops[j]? = some oj) (hjg:oj.guard=none) (hjc2:clsOf oj.op = .allo) (hjd:oj.dst=some e) (hez:e<n) (hmid:((List.range' (j+1) (c - 1 - j)).all fun i=>match ops[i]? with|some oi=>clsOf oi.op == .pure || clsOf oi.op == .read|none=>true)=true)
    (hw:KOps P n ops ex (fun K0 h0=>KOps P n ops ex (fun K1 h1=>KV P h1 t ((KG n K1).getD a .bot)=some ((KG n K1).getD d .bot)∧h1.get (XZ ((KG n K0).getD e .bot))=h0.get (XZ ((KG n K0).getD e .bot))∧KOps P n ops ex (Q .normal) (c+1) l2 K1 h1) (j+1) l1 K0 h0) 0 l0 K h):KA P n (.region id ops true) Q K h:=by
 refine AW.region_drawSA (c:=c) (r:=r) (j:=j) (t:=t) (a:=a) (d:=d) (e:=e) (l0:=l0) (l1:=l1) (l2:=l2) hm (by rw[←hl0,←hl1,←hl2,gI,gI]) hj hc (rgOk_sound rfl hok) (Qh n K) hrc hjc ho hop hod hdz ?_ hoj hjg hjc2 hjd hez ?_ ?_;intro j oj h1 h2 hj;have:=fF.1 hno j (gQ.2 ⟨h1,by omega⟩);simp only[hj,fG,bne_iff_ne,gT,beq_iff_eq] at this;exact⟨this.1,fun h3=>this.2.resolve_left aA⟩;intro i oi h1 h2 hi;have:=fF.1 hmid i (gQ.2 ⟨h1,by omega⟩);simpa only[hi,gT,beq_iff_eq] using this;refine QN ?_ _ _ _ _ hw;rintro fr0 h0 ⟨K0,rfl,hrest0⟩;refine QN ?_ _ _ _ _ hrest0;rintro fr1 h1 ⟨K1,rfl,hchk,hchk2,hrest⟩;exact⟨hchk,hchk2,hrest⟩
end
theorem TB {P:Program} {h h':AHeap} {t:TypeId} {p y v:AV} (hs:ZZ P h t p y=some (v,h')) (b:Nat) (hb:∀ o,p≠.ptr b o):h'.get b=h.get b:=by
 unfold ZZ at hs;split at hs;rename_i b0 o;split at hs;simp only[Option.bind_eq_bind,Option.bind_eq_some_iff] at hs;obtain⟨f,_,l,_,s,_,hs⟩:=hs;split at hs;cases hs;simp only[AHeap.setFam,AHeap.set,AHeap.get];exact gC (by rintro rfl; exact hb o rfl);cases hs;cases hs;cases hs
theorem St.apart {h0 h:AHeap} {objs:List Obj} (st:St h0 h objs) {i k jj:Nat} {o o':Obj} {p:AV} (hi:objs[i]? = some o) (hk:objs[k]? = some o') (hne:i≠k) (ha:AddrOf p o.v o.s jj) (ho:o'.xs≠[]) (hs : 0<o'.s):∀ oo,p≠.ptr (XZ o'.v) oo:=by
 intro oo hp;obtain⟨kp,fs,hlen,hm,hd,hb⟩:=st;have hilt:i<objs.length:=(dM.1 hi).1;have hklt:k<objs.length:=(dM.1 hk).1;have h1:=hm i o (fs[i]'aA) hi (dU aA);have h2:=hm k o' (fs[k]'aA) hk (dU aA);have e1:fs[i]? = some (fs[i]'aA):=dU aA;have e2:fs[k]? = some (fs[k]'aA):=dU aA
 cases hF:fs[i]'aA with
 | none=>
  rw[hF] at h1;obtain⟨bb,oo2,hx,hy⟩:=ha;rw[h1.1] at hx;rcases hx with ⟨_,_,_,hx⟩|⟨_,hx⟩ <;> cases hx
 | some F=>
  cases hG:fs[k]'aA with
  | none=>rw[hG] at h2; exact ho h2.2
  | some G=>
   rw[hF] at h1 e1;rw[hG] at h2 e2;rcases h1 with ⟨b,off,q,cs,f,_,hv,hg,_⟩|⟨b,x,f,_,hx,_⟩
   rotate_left
   rw[hx] at ha; exact ha.thing.elim;rcases h2 with ⟨b',off',q',cs',f',_,hv',hg',_⟩|⟨b',x',f',_,_,hs',_⟩
   rotate_left
   omega;have e3:=hv.addr ha;have e4:XZ o'.v=b':=by
    rcases hv' with ⟨_,_,h3,_⟩|⟨h3,_⟩
    rw[h3]; rfl;omega
   rw[hp,e4] at e3;cases e3;rw[hg] at hg';cases hg';exact hne (hd i k F e1 e2)
section
variable {P:Program} {n:Nat} {ops:Array Oper} {ex:List Nat} {Q:KF→AHeap→Prop} {k:Nat} {os:List Oper} {K:KF} {h h0:AHeap} {d:Nat} {ty:TypeId} {pos:String} {after:Array Edge} {objs:List Obj}
theorem KOps.storeG {t : TypeId} {x y : Operand} {p v : AV} {i j : Nat} {o : Obj} [hx : EvK h.globs n K x p] [hy : EvK h.globs n K y v] [ht : ScT P t] (st : St h0 h objs) (hex : ex.contains k = false) (hk' : objs[i]? = some o) (ha : AddrOf p o.v o.s j) (h1 : v.one = true) (hj : j < o.xs.length)
    (hk:∀ h',(∀ b,(∀ oo,p≠.ptr b oo)→h'.get b=h.get b)→St h0 h' (objs.set i {o with xs:=o.xs.set j v})→KOps P n ops ex Q (k+1) os K h'):KOps P n ops ex Q k (⟨none,.store t x y,ty,pos,after,none⟩::os) K h:=by
 obtain⟨h',h2,h3⟩:=st.store (P:=P) (t:=t) hk' ha (AV.cells_one h1) ht.sz aN bE;rw[Jn _ _ _ hj] at h3;refine KOps.chain0 (kill:=true) (v:=.tup []) rfl ?_ (fun hc=>by rw[hex] at hc; cases hc) (hk h' (TB h2) h3);simp only[Zl,hx.eq,hy.eq];exact h2
theorem KOps.doneSA {t a d e s j : Nat} {l2 : List Oper} {hA : AHeap} {KA : KF} {p v y z : AV} {xs : List AV} [hla : Look K a p] [hld : Look K d y] [hle : Look KA e z] [ht : ScT P t] (hna : Nat.ble n a = false) (hnd : Nat.ble n d = false) (hne : Nat.ble n e = false) (ha : AddrOf p v s j) (hr : Rd h v s xs) (hy : xs[j]? = some y) (hz : h.get (XZ z) = hA.get (XZ z)) (hrest : KOps P n ops ex Q k l2 K h) :
    KOps P n ops ex (fun K1 h1=>KV P h1 t ((KG n K1).getD a .bot)=some ((KG n K1).getD d .bot)∧h1.get (XZ ((KG n KA).getD e .bot))=hA.get (XZ ((KG n KA).getD e .bot))∧KOps P n ops ex Q k l2 K1 h1) k [] K h:=by
 refine Og ⟨?_,?_,hrest⟩;rw[QP,QP,hna,hnd,cond_false,cond_false,hla.eq,hld.eq];exact hr.load ha hy;rw[QP,hne,cond_false,hle.eq];exact hz
end
end Go.Am
namespace Go.Am
theorem St.put {h0 h : AHeap} {objs : List Obj} (st : St h0 h objs) {k : Nat} {o : Obj} (hk : objs[k]? = some o) {p : AV} {j : Nat} {l : List AV} (ha : AddrOf p o.v o.s j) (h0l : 0 < l.length) (hj : j + l.length ≤ o.xs.length) :
    ∃ b off q cs F f,View o.v o.s b off o.xs.length∧h.get b=some (.cells (some F) q cs)∧h.fam F=some f∧h.valid b=true∧off+o.xs.length≤cs.length∧St h0 ((h.set b (.cells (some F) q (putL cs (off+j) l))).setFam F {f with live:=some [b]}) (objs.set k {o with xs:=putL o.xs j l}):=by
 obtain⟨kp,fs,hlen,hm,hd,hb⟩:=id st;have hklt:k<objs.length:=(dM.1 hk).1;have hkf:k<fs.length:=by omega
 have hmk:=hm k o fs[k] hk (dU hkf)
 cases hF:fs[k] with
 | none=>rw[hF] at hmk; rw[hmk.2,List.length_nil] at hj; omega
 | some F=>
  rw[hF] at hmk;rcases hmk with ⟨b,off,q,cs,f,hlo,hview,hget,hfam,hsee,hpart,htip⟩|⟨b,x,f,_,hx,_⟩
  rotate_left
  rw[hx] at ha; exact ha.thing.elim;have hp:=hview.addr ha;subst hp;have hvalid:h.valid b=true:=by unfold AHeap.valid; rw[hget]; simp only[hfam,hsee]
  have hcl:off+o.xs.length≤cs.length:=by
   have:=congrArg List.length hpart;simp at this; omega
  refine⟨b,off,q,cs,F,f,hview,hget,hfam,hvalid,hcl,?_⟩
  ·refine st.upd hk (by simp[AHeap.setFam,AHeap.set,AHeap.next]) (by simp[AHeap.setFam,AHeap.set,AHeap.nfam]) rfl ?_;intro F' hmu hge;have hblt:=AHeap.get_lt hget;have hFlt:=AHeap.fam_lt hfam;have hFF:F'=some F:=by
    cases F' with
    | none=>rw[hmu.1] at hview; rcases hview with ⟨_,_,h1,_⟩|⟨_,h1⟩ <;> cases h1
    | some G=>
     rcases hmu with ⟨b',off',q',cs',f',_,hv',hg',_⟩|⟨b',x',f',_,hx',_⟩
     rotate_left
     rw[hx'] at ha; exact ha.thing.elim;have:=hv'.addr ha;simp only[AV.ptr.injEq] at this;obtain⟨rfl,_⟩:=this;rw[hget] at hg';cases hg';rfl
   subst hFF;refine⟨some F,.inl ⟨b,off,q,putL cs (off+j) l,{f with live:=some [b]},hlo,?_,?_,?_,?_,?_,?_⟩,.inl rfl,?_,?_⟩;simpa [KT _ _ _ hj] using hview;simp only[AHeap.setFam,AHeap.set,AHeap.get]; exact fA hblt;simp only[AHeap.setFam,AHeap.set,AHeap.fam]; exact fA hFlt;simp[Fam.sees];apply List.ext_getElem?;intro i;simp only[KT _ _ _ hj];rw[gL,QU _ _ _ hj];by_cases hi:i<o.xs.length;rw[if_pos hi,gM,QU _ _ _ aA];have hpi:=congrArg (fun l=>l[i]?) hpart;simp only[gL,hi,if_true,gM] at hpi;by_cases hc:j≤i∧i<j+l.length;rw[if_pos aA,if_pos hc]; congr 1; omega;rw[if_neg aA,if_neg hc]; exact hpi;rw[if_neg hi,if_neg aA,gO aA];intro ht;rcases htip ht with hx|hx
   exact .inl hx;right; simp only[KT _ _ _ hj]; exact hx;intro b' hb' hno;by_cases hbb:b=b';subst hbb; exact((hno F rfl aA).1 q cs hget).elim;simp[AHeap.setFam,AHeap.set,AHeap.get,hbb];intro G hG hne;have:F≠G:=fun he=>hne (by rw[he])
   simp[AHeap.setFam,AHeap.set,AHeap.fam,this]
theorem Wm {P : Program} {ρ : Operand → AV} {o : Oper} {h : AHeap} {t : TypeId} {x : Operand} {b off s : Nat} {full : Bool} (ho : o.op = .call { callee := .builtin .clear, args := #[x], argTypes := #[t] }) (ht : Q5 P t = true)
    (hρ : ρ x = .nils∨ρ x = .slc b off 0 s full):StepS P ρ o h (.tup []) h:=by
 refine⟨HGrow.refl h,?_⟩;intro φ a w K Q hfr r hops hk;have hx:=hops x aW;have hu:∃ u,P.underlying t=some u:=by
  unfold Q5 at ht;split at ht;rename_i h; exact⟨_,h⟩;cases ht
 obtain⟨u,hu⟩:=hu;have hrun:(fY #[t] o.type #[a.eval x]).run P w = .ok (.tuple #[]) w:=by
  rcases hρ with hρ|hρ
  rw[hρ] at hx;generalize hq:a.eval x=q at hx;cases hx;simp[fY,run_underlying hu];rw[hρ] at hx;generalize hq:a.eval x=q at hx;cases hx;simp[fY,run_underlying hu]
 have hop:(execOp a.eval o).run P w = .ok (.value (.tuple #[])) w:=by
  simp[execOp,ho,resolve,invoke,builtin,hrun]
 exact wp_of_run hop (hk φ _ _ (Trans.refl φ h w) r (VRel.undef φ))
theorem clear_step {P : Program} {ρ : Operand → AV} {o : Oper} {h : AHeap} {t e : TypeId} {x : Operand} {b off n F q : Nat} {full : Bool} {cs : List AV} {f : Fam} (ho : o.op = .call { callee := .builtin .clear, args := #[x], argTypes := #[t] })
    (he:ZT P t=some e) (hz:Qc P e=some (.int .i64 0)) (hρ : ρ x = .slc b off n 1 full) (hn : 0<n) (hg:h.get b=some (.cells (some F) q cs)) (hf:h.fam F=some f) (hv:h.valid b=true) (hfit:off+n≤cs.length) :
    StepS P ρ o h (.tup []) ((h.set b (.cells (some F) q (putL cs off (dN n (.int .i64 0))))).setFam F {f with live:=some [b]}):=by
 refine⟨HGrow.store hg (by rw[dT]; exact hfit),?_⟩;intro φ a w K Q hfr r hops hk;have hvx:=hops x aW;rw[hρ] at hvx;obtain⟨a1,c1,hx,hn1,hadr⟩:∃ a1 c1,a.eval x = .slice (some a1) n c1∧n≤c1∧(c1=0∨∃ k i z,φ b=some (k,i,z)∧a1=⟨k,i+off,none⟩∧i+off+c1*1≤z):=by
  generalize a.eval x=cx at hvx
  cases hvx with|slc _ _ _ _ _ a c hn hc hf hadr=>exact⟨a,c,rfl,hn,hadr⟩
 rcases hadr with hadr|⟨k,i,z,hb,ha1,hfz⟩
 omega;obtain⟨i0,zv,hzi,hzv,hzr⟩:=Qs hz;have hzv0:zv = .int .i64 0:=by
  have:=hzr φ
  cases this; rfl
 subst hzv0;have hzrun:∀ w,(zeroValue e).run P w = .ok (.int .i64 0) w:=by intro w; simp[zeroValue,typeInfo,hzi,hzv]
 have hl:VRels φ (dN n (.int .i64 0)) (dN n (fU .i64 0)):=by
  refine⟨by simp,?_⟩;intro j x y hx hy;rw[fW] at hx hy;split at hx;cases hx;split at hy
  cases hy; exact .int _ _
  rename_i hj1 hj2; exact absurd hj1 hj2;cases hx
 obtain⟨c,e',h1,hfit',r',tr⟩:=r.store hb hg hv hf (o:=off) (by rw[dT]; exact hfit) hl;have hst:=RowAt.store (P:=P) (g:=k) (o:=i+off) (t:=e') (dN n (fU .i64 0)) 0 c w h1 (by simpa using hfit') (by intro u hu; rw[List.eq_of_mem_replicate hu]; rfl);simp only[gN] at hst;have hu:=Zg he;have hzc:(gR (fU .i64 0).cells n).toList=dN n (fU .i64 0):=by
  have hc1:(fU .i64 0).cells = #[fU .i64 0]:=rfl;rw[hc1];simp[gR];apply List.ext_getElem;simp;intro i h1 h2;simp[Nat.mod_one]
 have hrun:(fY #[t] o.type #[a.eval x]).run P w = .ok (.tuple #[]) (w.setRow k (putL c.toList (i+off) (dN n (fU .i64 0))).toArray):=by
  obtain⟨m,rfl⟩:∃ m,n=m+1:=⟨n - 1,by omega⟩;rw[hx,ha1];simp only[fY,fH,fB,dY,run_underlying hu,dO,hzrun,hzc,hst,dQ,putL]
 have hop:(execOp a.eval o).run P w = .ok (.value (.tuple #[])) (w.setRow k (putL c.toList (i+off) (dN n (fU .i64 0))).toArray):=by
  simp[execOp,ho,resolve,invoke,builtin,hrun]
 exact wp_of_run hop (hk φ _ _ tr r' (VRel.undef φ))
section
variable {P:Program} {n:Nat} {ops:Array Oper} {ex:List Nat} {Q:KF→AHeap→Prop} {k:Nat} {os:List Oper} {K:KF} {h h0:AHeap} {d:Nat} {ty:TypeId} {pos:String} {after:Array Edge} {objs:List Obj}
theorem KOps.clearI0 {t e : TypeId} {v r : AV} {x : Operand} {i j : Nat} {l : List Int} {tip : Bool} [hx : EvK h.globs n K x r] [ht : SlT P t e 1 [.int .i64 0]] (hz1 : Qc P e = some (.int .i64 0)) (st : St h0 h objs) (hex : ex.contains k = false) (hk' : objs[i]? = some ⟨v, 1, ints l, tip⟩) (hj : j ≤ l.length) (hp : PartOf r v 1 j l.length)
    (hk:∀ h',St h0 h' (objs.set i ⟨v,1,ints (l.take j ++ dN (l.length - j) 0),tip⟩)→KOps P n ops ex Q (k+1) os K h'):KOps P n ops ex Q k (⟨none,.call {callee:=.builtin .clear,args:=#[x],argTypes:=#[t]},ty,pos,after,none⟩::os) K h:=by
 have hsame:l.length - j=0→objs.set i ⟨v,1,ints (l.take j ++ dN (l.length - j) 0),tip⟩=objs:=by
  intro h0;rw[h0,List.replicate_zero,gV,gE aA];exact obj_eq hk'
 rcases hp with ⟨hr,_,h1,h2⟩|⟨b,off,m,full,full',hv,hr,hm⟩
 have:=hk h (by rw[hsame aA]; exact st);exact Zj rfl hex (Wm (b:=0) (off:=0) (s:=0) (full:=true) rfl ht.sl (.inl (by rw[hx.eq]; exact hr))) this;by_cases hz:l.length - j=0;have:=hk h (by rw[hsame hz]; exact st);refine Zj rfl hex (Wm (b:=b) (off:=off+j*1) (s:=1) (full:=full') rfl ht.sl (.inr ?_)) this;rw[hx.eq,hr,hz];obtain⟨b',off',q,cs,F,f,hview,hget,hfam,hval,hcl,hS⟩:=st.put hk' (p:=.ptr b (off+j)) (j:=j) (l:=dN (l.length - j) (.int .i64 0)) ⟨b,off,.inl ⟨gS,m,full,hv⟩,rfl⟩ (by rw[dT]; omega) (by simp only[dT,ints,fX]; omega);have hb:b'=b∧off'=off:=by
  rcases hview with ⟨n',full2,h3,_⟩|⟨h3,_⟩
  simp only at h3; rw[hv] at h3; cases h3; exact⟨rfl,rfl⟩;cases h3
 obtain⟨rfl,rfl⟩:=hb;refine Zj rfl hex (clear_step (e:=e) (b:=b') (off:=off'+j) (n:=l.length - j) (full:=full') rfl ht.elem hz1 ?_ aA hget hfam hval ?_) (hk _ ?_);rw[hx.eq,hr,Nat.mul_one];simp only[ints,fX] at hcl; omega;have e1:putL (ints l) j (dN (l.length - j) (.int .i64 0))=ints (l.take j ++ dN (l.length - j) 0):=by
  unfold putL ints;rw[dT,show j+(l.length - j)=l.length by omega,List.drop_of_length_le aN,gV,gW,List.map_replicate,List.map_take]
 simp only at hS;rw[e1] at hS;exact hS
theorem KOps.shrinkI {x u : Operand} {v : AV} {t e : TypeId} {i m : Nat} {l : List Int} {tip : Bool} {zs : List AV} {ku : IntKind} {y : Int} [hx : EvK h.globs n K x v] [hu : EvK h.globs n K u (.int ku y)] [ht : SlT P t e 1 zs] (st : St h0 h objs) (hk' : objs[i]? = some ⟨v, 1, ints l, tip⟩) (hy : y = (m : Int)) (hm : m ≤ l.length)
    (hk:∀ r,r.one=true→St h0 h (objs.set i ⟨r,1,ints (l.take m),false⟩)→KOps P n ops ex Q (k+1) os ((d,r)::K) h):KOps P n ops ex Q k (⟨some d,.slice t x none (some u) none,ty,pos,after,none⟩::os) K h:=by
 subst hy;refine KOps.sliceHi (e:=e) (zs:=zs) (st.rd i hk') (m:=l.length) aN aA aA ?_;intro r hp;have hS:=St.slice st hk' (m:=l.length) aN hp (dZ _) aA;have e2:List.take (((m:Int).toNat - 0)*1) (List.drop (0*1) (ints l))=ints (l.take m):=by simp[ints,List.map_take]
 simp only at hS;rw[e2] at hS;refine hk r ?_ hS;rcases hp with ⟨rfl,_⟩|⟨_,_,_,_,_,_,rfl,_⟩ <;> rfl
end
end Go.Am
namespace Go.Proofs
open Go.Shelf
def Tryz.laysM171_ren:fL:=⟨fun|171=>25|243=>52|246=>89|283=>127|284=>128|285=>129|286=>130|129=>168|317=>167|318=>169|319=>170|320=>171|337=>195|338=>182|n=>n,fun|3=>3|9=>9|2=>2|4=>4|171=>208|0=>0|53=>209|37=>37|5=>5|173=>212|212=>249|51=>202|20=>20|213=>250|46=>190|232=>315|233=>302|n=>n,fun|17=>1|18=>3|19=>2|n=>n⟩
theorem Tryz.laysM171 : Go.Proofs.LaysM.n171 Tryz.prog Tryz.laysM171_ren := {
  mixed:=by kernel_rfl
  f129:=Tryz.func168.trans (congrArg some (by kernel_rfl))
  f171:=Tryz.func25.trans (congrArg some (by kernel_rfl))
  f243:=Tryz.func52.trans (congrArg some (by kernel_rfl))
  f246:=Tryz.func89.trans (congrArg some (by kernel_rfl))
  f283:=Tryz.func127.trans (congrArg some (by kernel_rfl))
  f284:=Tryz.func128.trans (congrArg some (by kernel_rfl))
  f285:=Tryz.func129.trans (congrArg some (by kernel_rfl))
  f286:=Tryz.func130.trans (congrArg some (by kernel_rfl))
  f317:=Tryz.func167.trans (congrArg some (by kernel_rfl))
  f318:=Tryz.func169.trans (congrArg some (by kernel_rfl))
  f319:=Tryz.func170.trans (congrArg some (by kernel_rfl))
  f320:=Tryz.func171.trans (congrArg some (by kernel_rfl))
  f337:=Tryz.func195.trans (congrArg some (by kernel_rfl))
  f338:=Tryz.func182.trans (congrArg some (by kernel_rfl))
  t0:=Tryz.underlying0
  a0:=Tryz.isAgg0
  z0:=Tryz.sizeOf0
  v0:=Tryz.zeroValue0
  t2:=Tryz.underlying2
  a2:=Tryz.isAgg2
  z2:=Tryz.sizeOf2
  v2:=Tryz.zeroValue2
  t3:=Tryz.underlying3
  a3:=Tryz.isAgg3
  z3:=Tryz.sizeOf3
  v3:=Tryz.zeroValue3
  t4:=Tryz.underlying4
  a4:=Tryz.isAgg4
  z4:=Tryz.sizeOf4
  v4:=Tryz.zeroValue4
  t5:=Tryz.underlying5
  a5:=Tryz.isAgg5
  z5:=Tryz.sizeOf5
  v5:=Tryz.zeroValue5
  t9:=Tryz.underlying9
  a9:=Tryz.isAgg9
  z9:=Tryz.sizeOf9
  v9:=Tryz.zeroValue9
  t20:=Tryz.underlying20
  a20:=Tryz.isAgg20
  z20:=Tryz.sizeOf20
  v20:=Tryz.zeroValue20
  t37:=Tryz.underlying37
  a37:=Tryz.isAgg37
  z37:=Tryz.sizeOf37
  v37:=Tryz.zeroValue37
  t46:=Tryz.underlying190
  a46:=Tryz.isAgg190
  z46:=Tryz.sizeOf190
  v46:=Tryz.zeroValue190
  t51:=Tryz.underlying202
  a51:=Tryz.isAgg202
  z51:=Tryz.sizeOf202
  v51:=Tryz.zeroValue202
  t53:=Tryz.underlying209
  a53:=Tryz.isAgg209
  z53:=Tryz.sizeOf209
  v53:=Tryz.zeroValue209
  t171:=Tryz.underlying208
  a171:=Tryz.isAgg208
  z171:=Tryz.sizeOf208
  v171:=Tryz.zeroValue208
  t173:=Tryz.underlying212
  a173:=Tryz.isAgg212
  z173:=Tryz.sizeOf212
  v173:=Tryz.zeroValue212
  t212:=Tryz.underlying249
  a212:=Tryz.isAgg249
  z212:=Tryz.sizeOf249
  v212:=Tryz.zeroValue249
  t213:=Tryz.underlying250
  a213:=Tryz.isAgg250
  z213:=Tryz.sizeOf250
  t232:=Tryz.underlying315
  a232:=Tryz.isAgg315
  z232:=Tryz.sizeOf315
  v232:=Tryz.zeroValue315
  t233:=Tryz.underlying302
  a233:=Tryz.isAgg302
  z233:=Tryz.sizeOf302
  v233:=Tryz.zeroValue302
  g17:=by kernel_rfl
  g18:=by kernel_rfl
  g19:=by kernel_rfl
  i0:=by kernel_rfl
  i2:=by kernel_rfl
  i3:=by kernel_rfl
  i4:=by kernel_rfl
  i5:=by kernel_rfl
  i9:=by kernel_rfl
  i20:=by kernel_rfl
  i37:=by kernel_rfl
  i46:=by kernel_rfl
  i51:=by kernel_rfl
  i53:=by kernel_rfl
  i171:=by kernel_rfl
  i173:=by kernel_rfl
  i212:=by kernel_rfl
  i232:=by kernel_rfl
  i233:=by kernel_rfl
  m17:=by kernel_rfl
  m18:=by kernel_rfl
  m19:=by kernel_rfl}
open Go.RowKit Go.Sort Go.Lib in
theorem Tryz.strconv_Itoa (n : Int) (h0 : -9223372036854775808 ≤ n) (h1 : n ≤ 9223372036854775807) (w : World) (htab : Lib.TabIs Tryz.prog w "internal/strconv.uint64pow10" .u64 Lib.pow10Tab) :
    Calls Tryz.prog 25 #[.int .i64 n] w fun e w'=>e = .returned (.string ⟨(Lib.itoa n).toArray⟩)∧∃ k os,w'=grow (w.drewN k) os:=Any.strconv_Itoa Tryz.laysM171 n h0 h1 w htab
def Tryz.lays171_ren:fL:=⟨fun|171=>25|243=>52|246=>89|283=>127|284=>128|285=>129|286=>130|129=>168|317=>167|318=>169|319=>170|320=>171|337=>195|338=>182|n=>n,fun|3=>3|9=>9|2=>2|4=>4|171=>208|0=>0|53=>209|37=>37|5=>5|173=>212|212=>249|51=>202|20=>20|213=>250|46=>190|232=>315|233=>302|n=>n,fun|17=>1|18=>3|19=>2|n=>n⟩
theorem Tryz.lays171 : Go.Proofs.Lays.n171 Tryz.prog Tryz.lays171_ren := {
  mixed:=by kernel_rfl
  f129:=Tryz.func168.trans (congrArg some (by kernel_rfl))
  f171:=Tryz.func25.trans (congrArg some (by kernel_rfl))
  f243:=Tryz.func52.trans (congrArg some (by kernel_rfl))
  f246:=Tryz.func89.trans (congrArg some (by kernel_rfl))
  f283:=Tryz.func127.trans (congrArg some (by kernel_rfl))
  f284:=Tryz.func128.trans (congrArg some (by kernel_rfl))
  f285:=Tryz.func129.trans (congrArg some (by kernel_rfl))
  f286:=Tryz.func130.trans (congrArg some (by kernel_rfl))
  f317:=Tryz.func167.trans (congrArg some (by kernel_rfl))
  f318:=Tryz.func169.trans (congrArg some (by kernel_rfl))
  f319:=Tryz.func170.trans (congrArg some (by kernel_rfl))
  f320:=Tryz.func171.trans (congrArg some (by kernel_rfl))
  f337:=Tryz.func195.trans (congrArg some (by kernel_rfl))
  f338:=Tryz.func182.trans (congrArg some (by kernel_rfl))
  t0:=Tryz.underlying0
  a0:=Tryz.isAgg0
  z0:=Tryz.sizeOf0
  v0:=Tryz.zeroValue0
  t2:=Tryz.underlying2
  a2:=Tryz.isAgg2
  z2:=Tryz.sizeOf2
  v2:=Tryz.zeroValue2
  t3:=Tryz.underlying3
  a3:=Tryz.isAgg3
  z3:=Tryz.sizeOf3
  v3:=Tryz.zeroValue3
  t4:=Tryz.underlying4
  a4:=Tryz.isAgg4
  z4:=Tryz.sizeOf4
  v4:=Tryz.zeroValue4
  t5:=Tryz.underlying5
  a5:=Tryz.isAgg5
  z5:=Tryz.sizeOf5
  v5:=Tryz.zeroValue5
  t9:=Tryz.underlying9
  a9:=Tryz.isAgg9
  z9:=Tryz.sizeOf9
  v9:=Tryz.zeroValue9
  t20:=Tryz.underlying20
  a20:=Tryz.isAgg20
  z20:=Tryz.sizeOf20
  v20:=Tryz.zeroValue20
  t37:=Tryz.underlying37
  a37:=Tryz.isAgg37
  z37:=Tryz.sizeOf37
  v37:=Tryz.zeroValue37
  t46:=Tryz.underlying190
  a46:=Tryz.isAgg190
  z46:=Tryz.sizeOf190
  v46:=Tryz.zeroValue190
  t51:=Tryz.underlying202
  a51:=Tryz.isAgg202
  z51:=Tryz.sizeOf202
  v51:=Tryz.zeroValue202
  t53:=Tryz.underlying209
  a53:=Tryz.isAgg209
  z53:=Tryz.sizeOf209
  v53:=Tryz.zeroValue209
  t171:=Tryz.underlying208
  a171:=Tryz.isAgg208
  z171:=Tryz.sizeOf208
  v171:=Tryz.zeroValue208
  t173:=Tryz.underlying212
  a173:=Tryz.isAgg212
  z173:=Tryz.sizeOf212
  v173:=Tryz.zeroValue212
  t212:=Tryz.underlying249
  a212:=Tryz.isAgg249
  z212:=Tryz.sizeOf249
  v212:=Tryz.zeroValue249
  t213:=Tryz.underlying250
  a213:=Tryz.isAgg250
  z213:=Tryz.sizeOf250
  t232:=Tryz.underlying315
  a232:=Tryz.isAgg315
  z232:=Tryz.sizeOf315
  v232:=Tryz.zeroValue315
  t233:=Tryz.underlying302
  a233:=Tryz.isAgg302
  z233:=Tryz.sizeOf302
  v233:=Tryz.zeroValue302
  g17:=by kernel_rfl
  g18:=by kernel_rfl
  g19:=by kernel_rfl}
open Go.RowKit Go.Sort Go.Lib in
theorem Tryz.strconv_Itoa_small (i : Nat) (hi : i < 100) (w : World) :
    Calls Tryz.prog 25 #[.int .i64 i] w fun e w'=>e = .returned (.string ⟨(Lib.decDigits i).toArray⟩)∧w'=w:=Any.strconv_Itoa_small Tryz.lays171 i hi w
def Tryz.lays146_ren:fL:=⟨fun|146=>134|221=>173|268=>196|138=>197|143=>198|195=>221|197=>222|218=>223|219=>224|260=>239|217=>240|225=>241|224=>242|267=>243|266=>255|314=>256|n=>n,fun|9=>9|31=>71|3=>3|4=>4|0=>0|105=>316|21=>21|5=>5|46=>190|119=>351|139=>354|138=>353|146=>238|51=>202|n=>n,fun|1=>4|3=>5|4=>6|n=>n⟩
theorem Tryz.lays146 : Go.Proofs.Lays.n146 Tryz.prog Tryz.lays146_ren := {
  mixed:=by kernel_rfl
  f138:=Tryz.func197.trans (congrArg some (by kernel_rfl))
  f143:=Tryz.func198.trans (congrArg some (by kernel_rfl))
  f146:=Tryz.func134.trans (congrArg some (by kernel_rfl))
  f195:=Tryz.func221.trans (congrArg some (by kernel_rfl))
  f197:=Tryz.func222.trans (congrArg some (by kernel_rfl))
  f217:=Tryz.func240.trans (congrArg some (by kernel_rfl))
  f218:=Tryz.func223.trans (congrArg some (by kernel_rfl))
  f219:=Tryz.func224.trans (congrArg some (by kernel_rfl))
  f221:=Tryz.func173.trans (congrArg some (by kernel_rfl))
  f224:=Tryz.func242.trans (congrArg some (by kernel_rfl))
  f225:=Tryz.func241.trans (congrArg some (by kernel_rfl))
  f260:=Tryz.func239.trans (congrArg some (by kernel_rfl))
  f266:=Tryz.func255.trans (congrArg some (by kernel_rfl))
  f267:=Tryz.func243.trans (congrArg some (by kernel_rfl))
  f268:=Tryz.func196.trans (congrArg some (by kernel_rfl))
  f314:=Tryz.func256.trans (congrArg some (by kernel_rfl))
  t0:=Tryz.underlying0
  a0:=Tryz.isAgg0
  z0:=Tryz.sizeOf0
  v0:=Tryz.zeroValue0
  t3:=Tryz.underlying3
  a3:=Tryz.isAgg3
  z3:=Tryz.sizeOf3
  v3:=Tryz.zeroValue3
  t4:=Tryz.underlying4
  a4:=Tryz.isAgg4
  z4:=Tryz.sizeOf4
  v4:=Tryz.zeroValue4
  t5:=Tryz.underlying5
  a5:=Tryz.isAgg5
  z5:=Tryz.sizeOf5
  v5:=Tryz.zeroValue5
  t9:=Tryz.underlying9
  a9:=Tryz.isAgg9
  z9:=Tryz.sizeOf9
  v9:=Tryz.zeroValue9
  t21:=Tryz.underlying21
  a21:=Tryz.isAgg21
  z21:=Tryz.sizeOf21
  v21:=Tryz.zeroValue21
  t31:=Tryz.underlying71
  a31:=Tryz.isAgg71
  z31:=Tryz.sizeOf71
  v31:=Tryz.zeroValue71
  t46:=Tryz.underlying190
  a46:=Tryz.isAgg190
  z46:=Tryz.sizeOf190
  v46:=Tryz.zeroValue190
  t51:=Tryz.underlying202
  a51:=Tryz.isAgg202
  z51:=Tryz.sizeOf202
  v51:=Tryz.zeroValue202
  t105:=Tryz.underlying316
  a105:=Tryz.isAgg316
  z105:=Tryz.sizeOf316
  v105:=Tryz.zeroValue316
  t119:=Tryz.underlying351
  a119:=Tryz.isAgg351
  z119:=Tryz.sizeOf351
  t138:=Tryz.underlying353
  a138:=Tryz.isAgg353
  z138:=Tryz.sizeOf353
  v138:=Tryz.zeroValue353
  t139:=Tryz.underlying354
  a139:=Tryz.isAgg354
  z139:=Tryz.sizeOf354
  v139:=Tryz.zeroValue354
  t146:=Tryz.underlying238
  a146:=Tryz.isAgg238
  z146:=Tryz.sizeOf238
  v146:=Tryz.zeroValue238
  g1:=by kernel_rfl
  g3:=by kernel_rfl
  g4:=by kernel_rfl}
open Go.RowKit Go.Lib in
theorem Tryz.strings_Split (s sep : ByteArray) (m : Int) (w : World) (hs : s.size < 4294967281) (hm : w.cell? ⟨4, 0, none⟩ = some (.int .i64 m)) (h1 : 1 ≤ sep.size) :
    Calls Tryz.prog 134 #[.string s,.string sep] w fun e w'=>
      e = .returned (.slice (some ⟨w.heap.size,0,none⟩) (Lib.countB s sep+1) (Lib.countB s sep+1))∧w'=w.alloc (.cells ((Lib.splitB sep 0 (Lib.countB s sep) s).map Value.string).toArray 9):=Any.strings_Split Tryz.lays146 (by kernel_rfl) s sep m w hs hm h1
def Tryz.lays160_ren:fL:=⟨fun|160=>176|232=>201|231=>200|227=>202|234=>204|233=>203|236=>206|235=>205|228=>225|271=>227|151=>226|197=>222|120=>245|152=>244|260=>239|137=>257|119=>258|224=>242|225=>241|217=>240|266=>255|n=>n,fun|9=>9|4=>4|3=>3|5=>5|117=>297|116=>296|0=>0|124=>300|21=>21|105=>316|46=>190|119=>351|139=>354|138=>353|n=>n,fun|3=>5|4=>6|n=>n⟩
theorem Tryz.lays160 : Go.Proofs.Lays.n160 Tryz.prog Tryz.lays160_ren := {
  mixed:=by kernel_rfl
  f119:=Tryz.func258.trans (congrArg some (by kernel_rfl))
  f120:=Tryz.func245.trans (congrArg some (by kernel_rfl))
  f137:=Tryz.func257.trans (congrArg some (by kernel_rfl))
  f151:=Tryz.func226.trans (congrArg some (by kernel_rfl))
  f152:=Tryz.func244.trans (congrArg some (by kernel_rfl))
  f160:=Tryz.func176.trans (congrArg some (by kernel_rfl))
  f197:=Tryz.func222.trans (congrArg some (by kernel_rfl))
  f217:=Tryz.func240.trans (congrArg some (by kernel_rfl))
  f224:=Tryz.func242.trans (congrArg some (by kernel_rfl))
  f225:=Tryz.func241.trans (congrArg some (by kernel_rfl))
  f227:=Tryz.func202.trans (congrArg some (by kernel_rfl))
  f228:=Tryz.func225.trans (congrArg some (by kernel_rfl))
  f231:=Tryz.func200.trans (congrArg some (by kernel_rfl))
  f232:=Tryz.func201.trans (congrArg some (by kernel_rfl))
  f233:=Tryz.func203.trans (congrArg some (by kernel_rfl))
  f234:=Tryz.func204.trans (congrArg some (by kernel_rfl))
  f235:=Tryz.func205.trans (congrArg some (by kernel_rfl))
  f236:=Tryz.func206.trans (congrArg some (by kernel_rfl))
  f260:=Tryz.func239.trans (congrArg some (by kernel_rfl))
  f266:=Tryz.func255.trans (congrArg some (by kernel_rfl))
  f271:=Tryz.func227.trans (congrArg some (by kernel_rfl))
  t0:=Tryz.underlying0
  a0:=Tryz.isAgg0
  z0:=Tryz.sizeOf0
  v0:=Tryz.zeroValue0
  t3:=Tryz.underlying3
  a3:=Tryz.isAgg3
  z3:=Tryz.sizeOf3
  v3:=Tryz.zeroValue3
  t4:=Tryz.underlying4
  a4:=Tryz.isAgg4
  z4:=Tryz.sizeOf4
  v4:=Tryz.zeroValue4
  t5:=Tryz.underlying5
  a5:=Tryz.isAgg5
  z5:=Tryz.sizeOf5
  v5:=Tryz.zeroValue5
  t9:=Tryz.underlying9
  a9:=Tryz.isAgg9
  z9:=Tryz.sizeOf9
  v9:=Tryz.zeroValue9
  t21:=Tryz.underlying21
  a21:=Tryz.isAgg21
  z21:=Tryz.sizeOf21
  v21:=Tryz.zeroValue21
  t46:=Tryz.underlying190
  a46:=Tryz.isAgg190
  z46:=Tryz.sizeOf190
  v46:=Tryz.zeroValue190
  t105:=Tryz.underlying316
  a105:=Tryz.isAgg316
  z105:=Tryz.sizeOf316
  v105:=Tryz.zeroValue316
  t116:=Tryz.underlying296
  a116:=Tryz.isAgg296
  z116:=Tryz.sizeOf296
  t117:=Tryz.underlying297
  a117:=Tryz.isAgg297
  z117:=Tryz.sizeOf297
  v117:=Tryz.zeroValue297
  t119:=Tryz.underlying351
  a119:=Tryz.isAgg351
  z119:=Tryz.sizeOf351
  t124:=Tryz.underlying300
  a124:=Tryz.isAgg300
  z124:=Tryz.sizeOf300
  v124:=Tryz.zeroValue300
  t138:=Tryz.underlying353
  a138:=Tryz.isAgg353
  z138:=Tryz.sizeOf353
  v138:=Tryz.zeroValue353
  t139:=Tryz.underlying354
  a139:=Tryz.isAgg354
  z139:=Tryz.sizeOf354
  v139:=Tryz.zeroValue354
  g3:=by kernel_rfl
  g4:=by kernel_rfl}
open Go.RowKit Go.Lib in
theorem Tryz.strings_Trim_laid (s cutset : ByteArray) (w : World) (hs : s.size ≤ 9223372036854775807) (hcs : cutset.size < 4294967281)
    (hascii:∀ (j:Nat) b,cutset.data.toList[j]? = some b→b.toNat<128) :
    Calls Tryz.prog 176 #[.string s,.string cutset] w fun e w'=>e = .returned (.string ⟨(Lib.trimS s.data.toList cutset.data.toList).toArray⟩)∧Below w.heap.size w w':=Any.strings_Trim_laid Tryz.lays160 (by kernel_rfl) s cutset w hs hcs hascii
end Go.Proofs
namespace Go.Proofs
open Go.Shelf
def Tryz.lays169_ren:fL:=⟨fun|169=>85|n=>n,fun|70=>154|9=>9|0=>0|72=>156|37=>37|127=>201|3=>3|5=>5|n=>n,fun|n=>n⟩
theorem Tryz.lays169 : Go.Proofs.Lays.n169 Tryz.prog Tryz.lays169_ren := {
  mixed:=by kernel_rfl
  f169:=Tryz.func85.trans (congrArg some (by kernel_rfl))
  t0:=Tryz.underlying0
  a0:=Tryz.isAgg0
  z0:=Tryz.sizeOf0
  v0:=Tryz.zeroValue0
  t3:=Tryz.underlying3
  a3:=Tryz.isAgg3
  z3:=Tryz.sizeOf3
  v3:=Tryz.zeroValue3
  t9:=Tryz.underlying9
  a9:=Tryz.isAgg9
  z9:=Tryz.sizeOf9
  v9:=Tryz.zeroValue9
  t37:=Tryz.underlying37
  a37:=Tryz.isAgg37
  z37:=Tryz.sizeOf37
  v37:=Tryz.zeroValue37
  t70:=Tryz.underlying154
  a70:=Tryz.isAgg154
  z70:=Tryz.sizeOf154
  v70:=Tryz.zeroValue154
  t72:=Tryz.underlying156
  a72:=Tryz.isAgg156
  z72:=Tryz.sizeOf156
  v72:=Tryz.zeroValue156
  t127:=Tryz.underlying201
  a127:=Tryz.isAgg201
  z127:=Tryz.sizeOf201
  v127:=Tryz.zeroValue201}
theorem Tryz.Builder_Extra_169 : Builder.Extra Tryz.prog Tryz.lays169_ren := {
  sizeBuilder:=by kernel_rfl
  liesBuilder:=by kernel_rfl
  t5:=Tryz.underlying5
  a5:=Tryz.isAgg5
  z5:=Tryz.sizeOf5
  v5:=Tryz.zeroValue5
  infoByte:=by kernel_rfl
  cellsByte:=by kernel_rfl
  sizeByte:=by kernel_rfl
  neB5:=by decide}
open Go.RowKit in
theorem Tryz.Builder_String_any_k (B b : Nat) (l : List UInt8) (w : World) (h : Lib.IsBuilderF 156 5 B b (Lib.byteCells l) w) (hBw : B ≤ w.heap.size) :
    Calls Tryz.prog 85 #[.pointer (some ⟨b,0,none⟩)] w fun e w'=>e = .returned (.string ⟨l.toArray⟩)∧(Lib.IsBuilderF 156 5 B b (Lib.byteCells l) w'∧Below B w w'∧Lib.OthersKept 5 (some b) w w'):=Any.Builder_String_any_k Tryz.lays169 Tryz.Builder_Extra_169 B b l w h hBw
end Go.Proofs
namespace Go.Am
abbrev Str:=List UInt8
def wdQ (l:Str):ByteArray:=⟨l.toArray⟩
theorem ba_ext {a b:ByteArray} (h:a.data.toList=b.data.toList):a=b:=by
 cases a; cases b
 congr 1;exact Array.toList_inj.1 h
theorem Xz (l:Str):(wdQ l).data.toList=l:=rfl
theorem Tg (l:Str):(wdQ l).toList=l:=by rw[ByteArray.toList_eq,Xz]
theorem wd_inj {a b:Str} (h:wdQ a=wdQ b):a=b:=by rw[←Xz a,←Xz b,h]
theorem wd_size (l:Str):(wdQ l).size=l.length:=by
 show(wdQ l).data.size=_;rw[←fM,Xz]
theorem Rc (l:Str) (i j:Nat):(wdQ l).extract i j=wdQ ((l.take j).drop i):=ba_ext (by
  rw[ByteArray.data_extract,gB,Xz,Xz,fR];rw[List.drop_take])
theorem wd_get (l:Str) (i:Nat):(wdQ l)[i]? = l[i]?:=by
 have h:=wd_size l;by_cases hi:i<l.length;rw[getElem?_pos (wdQ l) i (by rw[h]; exact hi),dU hi];rfl;rw[getElem?_neg (wdQ l) i (by rw[h]; exact hi),gO aA]
theorem wd_eql (a b:Str):((wdQ a).toList == (wdQ b).toList)=decide (a=b):=by
 rw[Tg,Tg,fZ,beq_iff_eq,decide_eq_true_iff]
theorem Us {l:Str} {p:Nat} (hp:p<l.length):(wdQ l).get! p=l.getD p 0:=by
 have h:=wd_get l p;rw[dU hp] at h;have hs:p<(wdQ l).size:=by rw[wd_size]; exact hp
 rw[getElem?_pos (wdQ l) p hs] at h;have h2:(wdQ l).get! p=(wdQ l)[p]'hs:=by
  show(wdQ l).data[p]! = (wdQ l).data[p]'hs;rw[getElem!_pos _ p hs]
 rw[h2,dP,dU hp];exact Option.some.inj h
instance (priority:=2000) instWC (globs:List Nat) (n:Nat) (K:KF) (l:Str):EvK globs n K (.const (.string ⟨l.toArray⟩)) (.str (wdQ l)):=⟨rfl⟩
abbrev kstr (s:Str):AV:=.str (wdQ s)
theorem KeyT.wstr {P:Program} {kt:TypeId} (h:ZJ P kt=true):KeyT P kt kstr:=by
 refine⟨fun a=>by simp[Zm,h],fun a b=>?_⟩;simp only[Ya,h,if_true];congr 1;rw[fZ,decide_eq_true_iff,decide_eq_true_iff];exact⟨wd_inj,fun h=>by rw[h]⟩
abbrev wcsQ (l:List Str):List AV:=l.map fun w=>AV.str (wdQ w)
abbrev WRowQ (h:AHeap) (v:AV) (l:List Str):Prop:=Rd h v 1 (wcsQ l)
section
variable {P:Program} {n:Nat} {ops:Array Oper} {ex:List Nat} {Q:KF→AHeap→Prop} {k:Nat} {os:List Oper} {K:KF} {h h0:AHeap} {d:Nat} {ty:TypeId} {pos:String} {after:Array Edge} {objs:List Obj}
theorem KOps.wEql {t t':TypeId} {x y:Operand} {a b:Str} [hx:EvK h.globs n K x (.str (wdQ a))] [hy:EvK h.globs n K y (.str (wdQ b))] (hk:KOps P n ops ex Q (k+1) os ((d,.bool (decide (a=b)))::K) h):KOps P n ops ex Q k (⟨some d,.binOp .eql t x y t',ty,pos,after,none⟩::os) K h:=
  O9 rfl (by simp only[apure,hx.eq,hy.eq,Zq,astr,wd_eql]) hk
theorem str_und {t:TypeId} (ht:ZJ P t=true):P.underlying t=some .string:=by
 unfold ZJ at ht;split at ht;rename_i h; exact h;cases ht
theorem KOps.lenStr {x : Operand} {t : TypeId} {s : ByteArray} [hx : EvK h.globs n K x (.str s)] [ht : StT P t] (hk : KOps P n ops ex Q (k + 1) os ((d, .int .i64 s.size) :: K) h) :
    KOps P n ops ex Q k (⟨some d,.call {callee:=.builtin .len,args:=#[x],argTypes:=#[t]},ty,pos,after,none⟩::os) K h:=by
 refine O9 rfl (v:=.int .i64 s.size) ?_ hk;simp only[apure,hx.eq,alen,str_und ht.st]
theorem KOps.lenW {x : Operand} {t : TypeId} {l : Str} [hx : EvK h.globs n K x (.str (wdQ l))] [ht : StT P t] (hk : KOps P n ops ex Q (k + 1) os ((d, .int .i64 (l.length : Int)) :: K) h) :
    KOps P n ops ex Q k (⟨some d,.call {callee:=.builtin .len,args:=#[x],argTypes:=#[t]},ty,pos,after,none⟩::os) K h:=
  KOps.lenStr (by rw[wd_size]; exact hk)
theorem KOps.wAt {t : TypeId} {x ix : Operand} {l : Str} {kd : IntKind} {i : Int} {j : Nat} [hx : EvK h.globs n K x (.str (wdQ l))] [hi : EvK h.globs n K ix (.int kd i)] [ht : StT P t] (hj : i = (j : Int)) (hlt : j < l.length) (hk : KOps P n ops ex Q (k + 1) os ((d, .int .u8 ((l.getD j 0).toNat : Int)) :: K) h) :
    KOps P n ops ex Q k (⟨some d,.index t x ix,ty,pos,after,none⟩::os) K h:=
  KOps.sAt hj (by rw[wd_size]; exact hlt) (by rw[Us hlt]; exact hk)
end
section
variable {P:Program} {n:Nat} {ops:Array Oper} {ex:List Nat} {Q:KF→AHeap→Prop} {k:Nat} {os:List Oper} {K:KF} {h h0:AHeap} {d:Nat} {ty:TypeId} {pos:String} {after:Array Edge} {objs pre rest:List Obj}
theorem KOps.loadM {x : Operand} {p v : AV} {t : TypeId} {j : Nat} {α : Type} {f : α → AV} {l : List α} (d0 : α) [hx : EvK h.globs n K x p] [ht : ScT P t] (ha : AddrOf p v 1 j) (hr : Rd h v 1 (l.map f)) (hj : j < l.length) (hk : KOps P n ops ex Q (k + 1) os ((d, f (l.getD j d0)) :: K) h) :
    KOps P n ops ex Q k (⟨some d,.load t x,ty,pos,after,none⟩::os) K h:=
  Oe ha hr (by simp[fC,dU hj,dP]) hk
theorem Kv {x : Operand} {p v : AV} {t : TypeId} {j : Nat} {l : List Str} [hx : EvK h.globs n K x p] [ht : ScT P t] (ha : AddrOf p v 1 j) (hr : WRowQ h v l) (hj : j < l.length) (hk : KOps P n ops ex Q (k + 1) os ((d, .str (wdQ (l.getD j []))) :: K) h) :
    KOps P n ops ex Q k (⟨some d,.load t x,ty,pos,after,none⟩::os) K h:=
  KOps.loadM (f:=fun w=>AV.str (wdQ w)) [] ha hr hj hk
theorem wcs_len (l:List Str):(wcsQ l).length=l.length*1:=by simp
theorem KOps.appendW {t e : TypeId} {x y : Operand} {v u : AV} {i : Nat} {p q : List Str} {zs : List AV} {tip tip' : Bool} [hx : EvK h.globs n K x v] [hy : EvK h.globs n K y u] [ht : SlT P t e 1 zs] (st : St h0 h (⟨u, 1, wcsQ q, tip'⟩ :: objs)) (hex : ex.contains k = true → tip = true) (hk' : objs[i]? = some ⟨v, 1, wcsQ p, tip⟩) (hsz : p.length + q.length ≤ 4294967296)
    (hk:∀ r h',r.one=true→St h0 h' (objs.set i ⟨r,1,wcsQ (p ++ q),tip⟩)→KOps P n ops ex Q (k+1) os ((d,r)::K) h') :
    KOps P n ops ex Q k (⟨some d,.call {callee:=.builtin .append,args:=#[x,y],argTypes:=#[t,t]},ty,pos,after,none⟩::os) K h:=by
 refine Z0 (e:=e) (zs:=zs) (s:=1) (i:=i+1) (a:=p.length) (b:=q.length) (xs:=wcsQ p) (ys:=wcsQ q) (tip:=tip) st hex (by simpa using hk') (wcs_len p) (st.rd 0 rfl) (wcs_len q) (by simp[AV.one]) hsz ?_;intro r h' hS;have hS':St h0 h' (objs.set i ⟨r,1,wcsQ (p ++ q),tip⟩):=by
  have:=St.tail hS;simpa [wcsQ] using this
 have hlt:=(dM.1 hk').1;exact hk r h' (hS'.one (k:=i) (o:=⟨r,1,wcsQ (p ++ q),tip⟩) (by rw[gP,if_pos rfl,if_pos hlt])) hS'
theorem QL {t e : TypeId} {x y : Operand} {v u : AV} {i : Nat} {p : List Str} {a : Str} {zs : List AV} {tip tip' : Bool} [hx : EvK h.globs n K x v] [hy : EvK h.globs n K y u] [ht : SlT P t e 1 zs] (st : St h0 h (⟨u, 1, [.str (wdQ a)], tip'⟩ :: objs)) (hex : ex.contains k = true → tip = true) (hk' : objs[i]? = some ⟨v, 1, wcsQ p, tip⟩) (hsz : p.length + 1 ≤ 4294967296)
    (hk:∀ r h',r.one=true→St h0 h' (objs.set i ⟨r,1,wcsQ (p ++ [a]),tip⟩)→KOps P n ops ex Q (k+1) os ((d,r)::K) h') :
    KOps P n ops ex Q k (⟨some d,.call {callee:=.builtin .append,args:=#[x,y],argTypes:=#[t,t]},ty,pos,after,none⟩::os) K h:=
  KOps.appendW (e:=e) (zs:=zs) (q:=[a]) st hex hk' hsz hk
end
end Go.Am
namespace Go.Am
theorem dec_lo {s:ByteArray} {p:Nat} (h:(s.get! p).toNat<128):fD s p=((s.get! p).toNat,1):=by
 unfold fD;simp only[gN];rw[if_pos h]
theorem dec_hi {s:ByteArray} {p:Nat} (h : 128≤(s.get! p).toNat) : 128≤(fD s p).1:=by
 unfold fD;simp only[gN];rw[if_neg aA];have h9:(128:Nat)≤Utf8.runeError:=by decide
 split;split;rename_i h; exact h;exact h9;split;split;rename_i h; simp at h; omega;exact h9;split;split;rename_i h; simp at h; omega;exact h9;exact h9
theorem YN {l:Str} {p:Nat} (hp:p<l.length) (h:(l.getD p 0).toNat<128):fD (wdQ l) p=((l.getD p 0).toNat,1):=by
 have:=dec_lo (s:=wdQ l) (p:=p) (by rw[Us hp]; exact h);rw[Us hp] at this;exact this
theorem UW {l:Str} {p:Nat} (hp:p<l.length) (h : 128≤(l.getD p 0).toNat) : 128≤(fD (wdQ l) p).1:=dec_hi (by rw[Us hp]; exact h)
theorem wrap32 {a:Int} (h1 : -2147483648≤a) (h2:a≤2147483647):IntKind.i32.wrap a=a:=by
 unfold IntKind.wrap;simp[IntKind.bits,IntKind.signed];omega
section
variable {P:Program} {n:Nat} {ops:Array Oper} {ex:List Nat} {Q:KF→AHeap→Prop} {k:Nat} {os:List Oper} {K:KF} {h:AHeap} {d:Nat} {ty:TypeId} {pos:String} {after:Array Edge}
theorem KOps.subK {t t' : TypeId} {x y : Operand} {kd : IntKind} {a b : Int} [hx : EvK h.globs n K x (.int kd a)] [hy : EvK h.globs n K y (.int kd b)] (hw : kd.wrap (a - b) = a - b)
    (hk:KOps P n ops ex Q (k+1) os ((d,.int kd (a - b))::K) h):KOps P n ops ex Q k (⟨some d,.binOp .sub t x y t',ty,pos,after,none⟩::os) K h:=
  K5 (.inr (.inr rfl)) (by simp only[XB,hw]) hk
theorem KOps.nilEqY {t t' e:TypeId} {s:Nat} {zs:List AV} {x y:Operand} {v:AV} [hx:EvK h.globs n K x v] [hy:EvK h.globs n K y .nils] [ht:SlT P t e s zs] (hv:v = .nils) (hk:KOps P n ops ex Q (k+1) os ((d,.bool true)::K) h):KOps P n ops ex Q k (⟨some d,.binOp .eql t x y t',ty,pos,after,none⟩::os) K h:=
  O9 rfl (by simp only[apure,hx.eq,hy.eq,hv,Zq]; rw[if_pos ht.sl]) hk
theorem KOps.nilNeY {t t' e:TypeId} {s:Nat} {zs:List AV} {x y:Operand} {v:AV} [hx:EvK h.globs n K x v] [hy:EvK h.globs n K y .nils] [ht:SlT P t e s zs] (hv:v = .nils) (hk:KOps P n ops ex Q (k+1) os ((d,.bool false)::K) h):KOps P n ops ex Q k (⟨some d,.binOp .neq t x y t',ty,pos,after,none⟩::os) K h:=
  O9 rfl (by simp only[apure,hx.eq,hy.eq,hv,Zq]; rw[if_pos ht.sl]) hk
def VV (v:AV):Prop:=∃ b o m z full,v = .slc b o m z full
theorem Rd.nilOr {v:AV} {xs:List AV} {z:Nat} (hr:Rd h v z xs) (hz : 0<z):(v = .nils∧xs = [])∨VV v:=by
 rcases hr with h2|⟨b,o,F,p,cs,h1,_⟩|⟨_,_,_,_,h0,_⟩
 exact .inl h2;rcases h1 with ⟨m,full,h1,_⟩|⟨h0,_⟩
 exact .inr ⟨b,o,m,_,full,h1⟩;omega;omega
theorem KOps.nilEqS {t t' e:TypeId} {s:Nat} {zs:List AV} {x y:Operand} {v:AV} [hx:EvK h.globs n K x v] [hy:EvK h.globs n K y .nils] [ht:SlT P t e s zs] (hv:VV v) (hk:KOps P n ops ex Q (k+1) os ((d,.bool false)::K) h):KOps P n ops ex Q k (⟨some d,.binOp .eql t x y t',ty,pos,after,none⟩::os) K h:=by
 obtain⟨b,o,m,z,full,rfl⟩:=hv;exact O9 rfl (by simp only[apure,hx.eq,hy.eq,Zq]; rw[if_pos ht.sl]) hk
theorem KOps.nilNeS {t t' e:TypeId} {s:Nat} {zs:List AV} {x y:Operand} {v:AV} [hx:EvK h.globs n K x v] [hy:EvK h.globs n K y .nils] [ht:SlT P t e s zs] (hv:VV v) (hk:KOps P n ops ex Q (k+1) os ((d,.bool true)::K) h):KOps P n ops ex Q k (⟨some d,.binOp .neq t x y t',ty,pos,after,none⟩::os) K h:=by
 obtain⟨b,o,m,z,full,rfl⟩:=hv;exact O9 rfl (by simp only[apure,hx.eq,hy.eq,Zq]; rw[if_pos ht.sl]) hk
theorem KOps.ptrEqY {t t':TypeId} {x y:Operand} {v:AV} [hx:EvK h.globs n K x v] [hy:EvK h.globs n K y .nilp] (ht:XE P t=true) (hv:v = .nilp) (hk:KOps P n ops ex Q (k+1) os ((d,.bool true)::K) h):KOps P n ops ex Q k (⟨some d,.binOp .eql t x y t',ty,pos,after,none⟩::os) K h:=
  O9 rfl (by simp only[apure,hx.eq,hy.eq,hv,Zq]; rw[if_pos ht]) hk
theorem KOps.ptrNeY {t t':TypeId} {x y:Operand} {v:AV} [hx:EvK h.globs n K x v] [hy:EvK h.globs n K y .nilp] (ht:XE P t=true) (hv:v = .nilp) (hk:KOps P n ops ex Q (k+1) os ((d,.bool false)::K) h):KOps P n ops ex Q k (⟨some d,.binOp .neq t x y t',ty,pos,after,none⟩::os) K h:=
  O9 rfl (by simp only[apure,hx.eq,hy.eq,hv,Zq]; rw[if_pos ht]) hk
theorem Uj {v:AV} (ha:AddrOf v v 0 0):∃ b o,v = .ptr b o:=by
 obtain⟨b,o,h,_⟩:=ha;rcases h with ⟨h0,_⟩|⟨_,h1⟩
 omega;exact⟨b,o,h1⟩
theorem KOps.ptrEqN {t t':TypeId} {x y:Operand} {v:AV} [hx:EvK h.globs n K x v] [hy:EvK h.globs n K y .nilp] (ht:XE P t=true) (ha:AddrOf v v 0 0) (hk:KOps P n ops ex Q (k+1) os ((d,.bool false)::K) h):KOps P n ops ex Q k (⟨some d,.binOp .eql t x y t',ty,pos,after,none⟩::os) K h:=by
 obtain⟨b,o,rfl⟩:=Uj ha;exact O9 rfl ah hk
theorem KOps.ptrNeN {t t':TypeId} {x y:Operand} {v:AV} [hx:EvK h.globs n K x v] [hy:EvK h.globs n K y .nilp] (ht:XE P t=true) (ha:AddrOf v v 0 0) (hk:KOps P n ops ex Q (k+1) os ((d,.bool true)::K) h):KOps P n ops ex Q k (⟨some d,.binOp .neq t x y t',ty,pos,after,none⟩::os) K h:=by
 obtain⟨b,o,rfl⟩:=Uj ha;exact O9 rfl ah hk
theorem KOps.nilNeB (b:Bool) {t t' e:TypeId} {s:Nat} {zs:List AV} {x y:Operand} {v:AV} [hx:EvK h.globs n K x v] [hy:EvK h.globs n K y .nils] [ht:SlT P t e s zs] (h0:b=false→v = .nils) (h1:b=true→VV v) (hk:KOps P n ops ex Q (k+1) os ((d,.bool b)::K) h):KOps P n ops ex Q k (⟨some d,.binOp .neq t x y t',ty,pos,after,none⟩::os) K h:=by
 cases b;exact KOps.nilNeY (h0 rfl) hk;exact KOps.nilNeS (h1 rfl) hk
theorem KOps.ptrNeB (b:Bool) {t t':TypeId} {x y:Operand} {v:AV} [hx:EvK h.globs n K x v] [hy:EvK h.globs n K y .nilp] (ht:XE P t=true) (h0:b=false→v = .nilp) (h1:b=true→AddrOf v v 0 0) (hk:KOps P n ops ex Q (k+1) os ((d,.bool b)::K) h):KOps P n ops ex Q k (⟨some d,.binOp .neq t x y t',ty,pos,after,none⟩::os) K h:=by
 cases b;exact KOps.ptrNeY ht (h0 rfl) hk;exact KOps.ptrNeN ht (h1 rfl) hk
theorem KOps.ptrEqB (b:Bool) {t t':TypeId} {x y:Operand} {v:AV} [hx:EvK h.globs n K x v] [hy:EvK h.globs n K y .nilp] (ht:XE P t=true) (h0:b=true→v = .nilp) (h1:b=false→AddrOf v v 0 0) (hk:KOps P n ops ex Q (k+1) os ((d,.bool b)::K) h):KOps P n ops ex Q k (⟨some d,.binOp .eql t x y t',ty,pos,after,none⟩::os) K h:=by
 cases b;exact KOps.ptrEqN ht (h1 rfl) hk;exact KOps.ptrEqY ht (h0 rfl) hk
end
end Go.Am
namespace Go.Am
theorem shl64:∀ i:Nat,i≤6→IntKind.wrap .i64 (1*2 ^ Min.min (i:Int).toNat (IntKind.bits .i64))=((2 ^ i:Nat):Int):=by decide +kernel
end Go.Am
namespace Go.Am
def Kz (s k:Nat):List Int:=((fS k).filter fun j=>s.testBit j).map fun j:Nat=>(j:Int)
theorem JZ (s k:Nat):Kz s (k+1)=if s.testBit k then Kz s k ++ [(k:Int)] else Kz s k:=by
 unfold Kz;rw[List.range_succ,List.filter_append,gW]
 cases h:s.testBit k <;> simp[h]
theorem Yu (s k:Nat):(Kz s k).length≤k:=by
 unfold Kz;rw[fX];exact Nat.le_trans (List.length_filter_le _ _) aN
end Go.Am
namespace Go.Am
theorem waysE_lost (r:Int) (ws:List W):∀ k,QS r ws k≠12:=by
 intro k
 induction k with
 | zero=>simp[QS]
 | succ k ih=>
  rw[QS];split;unfold Qb;split;decide;split;decide;split <;> decide;exact ih
theorem chkB_lost (r:Int) (ws:List W):KR r ws≠12:=by
 unfold KR;split;decide;split;decide;exact waysE_lost r ws _
theorem RK (rm:Int) (ws:List W):(KU rm ws=12→QZ rm ws=false∧KR rm ws=0)∧(KU rm ws≠12→QZ rm ws=decide (KU rm ws=0)∧KR rm ws=KU rm ws):=by
 have h1:=chkB_lost rm ws;unfold KU;by_cases h:KR rm ws=0
 ·rw[if_pos h]
  cases hc:QZ rm ws with
  | true=>exact⟨fun h2=>absurd h2 aE,fun _=>⟨rfl,h⟩⟩
  | false=>exact⟨fun _=>⟨rfl,h⟩,fun h2=>absurd rfl h2⟩
 rw[if_neg h];refine⟨fun h2=>absurd h2 h1,fun _=>⟨?_,rfl⟩⟩;rw[QZ,decide_eq_false h]; rfl
theorem stCan_c {h:AHeap} {rm:Int} {vW:AV} {ws:List W} (hv:Rd h vW 4 (flr wc ws)):ACalls Go.Proofs.Tryz.prog 21 [.agg [.int .i64 rm,vW]] h (fun q h'=>q = .tup [.bool (QZ rm ws),.int .i64 (KR rm ws)]∧Keeps h h'):=by
 refine OI 16 [.tmp 2,.tmp 3] Go.Proofs.Tryz.func21 rfl aE rfl rfl (Nat.le_of_ble_eq_true rfl) ?_;have hS:=St.refl h;have hvo:vW.one=true:=hv.one;show KA _ 16 _ _ [(0,.agg [.int .i64 rm,vW])] _;refine bZ ?_;intro p1 h' hp1 hS;refine cK ?_;refine Ol rfl (VR (Rd.ext hS.keeps hv)) ?_;rintro _ h5 ⟨qp,rfl,hK,hqp,hyes⟩;refine Oa [5] ?_;refine Oa [5,12] ?_;refine Om ?_ ?_;intro c12;refine bt ?_;have h1:=(RK rm ws).1 c12;exact⟨by rw[h1.1,h1.2],hS.keeps.trans hK⟩;intro c12;refine OC [5] ?_;refine bt ?_;have h1:=(RK rm ws).2 c12;exact⟨by rw[h1.1,h1.2],hS.keeps.trans hK⟩
end Go.Am
namespace Go.Am
def Xv (ws : List W) (s : Nat) (w : Int) : Nat → Int
  | 0=>0
  | i+1=>Xv ws s w i+if (i:Int)≠w∧lvs (ws.getD i default) s=true then (ws.getD i default).l else 0
def Xw (ws : List W) (s : Nat) (w : Int) : Nat → Int
  | 0=>0
  | i+1=>Xw ws s w i+if (i:Int)≠w∧ens (ws.getD i default) s=true then (ws.getD i default).m else 0
theorem WW {rm:Int} {ws:List W} (h:BOk rm ws) (s:Nat) (w:Int):∀ k,k≤ws.length→(0≤Xv ws s w k∧Xv ws s w k≤99*(k:Int))∧0≤Xw ws s w k∧Xw ws s w k≤99*(k:Int):=by
 intro k
 induction k with
 | zero=>intro _; simp[Xv,Xw]
 | succ k ih=>
  intro hk;have h1:=ih aA;have hw:=h.way k aA;have:=hw.l0; have:=hw.m1; have:=hw.lm;rw[Xv,Xw];constructor <;> split <;> omega
def Uq (ws:List W) (s i:Nat):Int:=if lvs (ws.getD i default) s then Xw ws s i ws.length - Xv ws s i ws.length else Xv ws s i ws.length - Xw ws s i ws.length
theorem lvs_ens (w:W) (s:Nat):(inS s w.f == inS s w.t)=(!lvs w s && !ens w s):=by
 unfold lvs ens
 cases inS s w.f <;> cases inS s w.t <;> rfl
def YG (a b:List Int):Bool:=decide (a.length<b.length) || (decide (a.length=b.length) && (fS a.length).any fun i=>((fS i).all fun j=>decide (a.getD j 0=b.getD j 0)) && decide (a.getD i 0<b.getD i 0))
theorem TE {a b:List Int} (h:a.length≠b.length):YG a b=decide (a.length<b.length):=by
 rw[YG,decide_eq_false h,Bool.false_and,Bool.or_false]
theorem befB_at {a b:List Int} {i:Nat} (h:a.length=b.length) (hi:i<a.length) (hp:∀ j,j<i→a.getD j 0=b.getD j 0) (hne:a.getD i 0≠b.getD i 0):YG a b=decide (a.getD i 0<b.getD i 0):=by
 rw[YG,decide_eq_false aA,Bool.false_or,decide_eq_true h,Bool.true_and,fZ,decide_eq_true_iff,List.any_eq_true];constructor;rintro⟨k,hk,hb⟩;rw[fG,decide_eq_true_iff,fF] at hb;obtain⟨h1,h2⟩:=hb;rcases Nat.lt_trichotomy k i with h3|rfl|h3
 have:=hp k h3; omega;exact h2;exact absurd (of_decide_eq_true (h1 i (fN.2 h3))) hne;intro hlt;refine⟨i,fN.2 hi,?_⟩;rw[fG,decide_eq_true_iff,fF];exact⟨fun j hj=>decide_eq_true (hp j (fN.1 hj)),hlt⟩
theorem befB_same {a b:List Int} (h:a.length=b.length) (hp:∀ j,j<a.length→a.getD j 0=b.getD j 0):YG a b=false:=by
 rw[YG,decide_eq_false aA,Bool.false_or,decide_eq_true h,Bool.true_and,List.any_eq_false];intro i hi;rw[fG,decide_eq_true_iff];rintro⟨_,h2⟩;have:=hp i (fN.1 hi);omega
def YW (o:Option Nat) (k:Nat):Bool:=match o with|none=>true|some b=>YG (Kz k 6) (Kz b 6)
def QC (p : Nat → Bool) : Nat → Option Nat
  | 0=>none
  | k+1=>if (p k && YW (QC p k) k)=true then some k else QC p k
def fewL (p:Nat→Bool) (k:Nat):List Int:=match QC p k with|none=>[] | some b=>Kz b 6
end Go.Am
