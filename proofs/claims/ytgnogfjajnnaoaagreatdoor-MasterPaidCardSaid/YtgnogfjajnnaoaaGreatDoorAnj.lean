/-
  Layer 14: books that are told lines; two books of the same lines.
  Conditions: none.
-/
import Derived.Test.YtgnogfjajnnaoaaGreatDoorSh3
import Derived.LaidLaws
import Derived.Test.YtgnogfjajnnaoaaGreatDoorCn
open Array renaming getElem?_eq_getElem → dJ
open Bool renaming and_eq_true → dF
open Go.Lib renaming parseUint10 → dY, atoiAll → dG, parseMag → dV
open Go.Result renaming andThen_ok → dP
open List renaming getD_eq_getElem?_getD → dE, getD_cons_zero → dI, getD_cons_succ → dO, getElem?_eq_some_iff → dU, length_singleton → dH, length_append → dK, getElem?_concat_length → dN, map_append → dQ, take_append_of_le_length → dR, filter_congr → dS, getElem?_eq_getElem → dT, length_map → dW, foldl_cons → dX, length_filter_le → dZ, foldl_nil → fA, mem_of_getElem? → fE, map_map → fI, getElem?_map → fO, all_eq_true → fU, length_set → fY
open Option renaming map_eq_some_iff → dM
open Option.some renaming inj → dL
set_option maxRecDepth 99999
set_option maxHeartbeats 4000000
namespace Go.Am
def Y6:Str:=[117,110,100,111]
noncomputable def bkStep (ls:List Str) (x:Str):List Str:=if x=Y6 then ls.dropLast else doL ls x
noncomputable def ZC (xs : List Str) : Nat → List Str
  | 0=>[]
  | i+1=>bkStep (ZC xs i) (xs.getD i [])
noncomputable def YG (xs:List Str):List Str:=ZC xs xs.length
theorem UN {ls:List Str} {x:Str} (h:x=Y6):bkStep ls x=ls.dropLast:=if_pos h
theorem bk_do {ls:List Str} {x:Str} (h:¬ x=Y6):bkStep ls x=doL ls x:=if_neg h
theorem Done.take {l:List Str} (hD:Done l) (i:Nat):Done (l.take i):=by
 induction hD with
 | nil=>rw[List.take_nil]; exact .nil
 | @snoc lines line h he ih=>
  by_cases hi:i≤lines.length;rw[dR hi]; exact ih;rw[List.take_of_length_le ap]; exact .snoc h he
theorem Done.one {l:List Str} (hD:Done l):∀ i,i<l.length→O3 (l.take i) (l.getD i [])=0:=by
 induction hD with
 | nil=>intro i hi; cases hi
 | @snoc lines line h he ih=>
  intro i hi;by_cases hl:i<lines.length;rw[dR (Nat.le_of_lt hl),XF _ hl]; exact ih i hl;have:i=lines.length:=by rw[dK,dH] at hi; omega
  subst this;rw[List.take_left',dE,dN];exact he;rfl
theorem book_c {h:AHeap} {v:AV} {ls:List Str} (hv:WRow h v ls) (hl:ls.length≤1000000) (hx:∀ x∈ls,x.length≤1000000) (hV:Vs h):ACalls Go.Proofs.Tryz.prog 37 [v] h (fun b h'=>Bk h h' b (YG ls) []):=by
 refine OP 22 [.tmp 2] Go.Proofs.Tryz.func37 rfl aD rfl rfl (Nat.le_of_ble_eq_true rfl) ?_;show KA _ 22 _ _ [(0,v)] _;refine Oa [0] ?_;refine Ow ?_;refine Ol rfl (new_c) ?_;rintro b h5 hB;have hvk:WRow h5 v ls:=by obtain⟨_,_,_,hS⟩:=hB; exact Rd.ext hS.keeps hv
 refine Oa [0,3] ?_;refine Oc ?_;refine O4 hvk ?_;refine Oa [3,7,8,9] ?_;refine OB ?_;refine Kk (X:=Nat) (fun i=>[(3,b),(7,v),(8,.int .i64 (ls.length:Int)),(9,.int .i64 (i:Int))]) (fun i h'=>i≤ls.length∧Bk h h' b (ZC ls i) []) (fun i=>ls.length - i) 0 ?_ ?_;exact⟨Nat.zero_le _,hB⟩;rintro i h2 ⟨hi,hB⟩;have hvk:WRow h2 v ls:=by obtain⟨_,_,_,hS⟩:=hB; exact Rd.ext hS.keeps hv
 refine cM ?_;refine Om ?_ ?_
 ·intro c10;have hlt:i<ls.length:=by omega
  obtain⟨vl,A,hb,hS⟩:=hB;have hds:∀ x∈ZC ls i,x.length≤1000000:=fun x hx=>Nat.le_trans (hb.done.small x hx) aA
  refine Oz [3,7,8,9] ?_;refine cT ?_;refine Ou hvk (j:=i) rfl aB ?_;intro p11 hp11;refine OJ hp11 hvk aB ?_;refine Oa [3,5,7,8,9] ?_;refine Oa [3,5,7,8,9,14] ?_;refine Om ?_ ?_;intro c14;refine Oc ?_;refine Ol rfl (undo_c hb hS hV hds) ?_;rintro _ h8 ⟨rfl,hB8⟩;refine Of ?_;refine bW ?_;refine Oq [3,7,8,9] ?_;refine bU ?_;exact lpN (i+1) ⟨by omega,by rw[ZC,UN c14]; exact hB8⟩ aA;intro c14;refine Oc ?_;refine Ol rfl (Xd hb hS (hV.ext hS.keeps) (hx _ (getD_mem hlt))) ?_;rintro _ h8 ⟨rfl,hB8⟩;refine Of ?_;refine bW ?_;refine Oq [3,7,8,9] ?_;refine bU ?_;exact lpN (i+1) ⟨by omega,by rw[ZC,bk_do c14]; exact hB8⟩ aA
 intro c10;refine bQ ?_;refine Oq [3] ?_;refine bT ?_;have hie:i=ls.length:=by omega
 subst hie;exact hB
end Go.Am
namespace Go.Am
def badL (l:Str):Prop:=[]∈OK 32 l∨(l.any fun c=>decide (c.toNat<32∨126<c.toNat))=true
instance (l:Str):Decidable (badL l):=inferInstanceAs (Decidable (_∨_))
end Go.Am
namespace Go.Am
theorem rE_long {l:Str} (h : 40<l.length):Kx l=19:=by unfold Kx; exact if_pos h
theorem rE_bad {l:Str} (h1:¬ 40<l.length) (h:badL l):Kx l=9:=by unfold Kx; dsimp only; rw[if_neg h1]; exact if_pos h
theorem rE_kind {l:Str} (h1:¬ 40<l.length) (h2:¬ badL l) (h:OR ((OK 32 l).getD 0 []) = []):Kx l=8:=by have h2':¬ ([]∈OK 32 l∨(l.any fun c=>decide (c.toNat<32∨126<c.toNat))=true):=h2; unfold Kx; dsimp only; rw[if_neg h1,if_neg h2',if_pos h]
theorem rE_shape {l:Str} (h1:¬ 40<l.length) (h2:¬ badL l) (h3:OR ((OK 32 l).getD 0 [])≠[]) (h:(OK 32 l).length≠(OR ((OK 32 l).getD 0 [])).length+1):Kx l=5:=by have h2':¬ ([]∈OK 32 l∨(l.any fun c=>decide (c.toNat<32∨126<c.toNat))=true):=h2; unfold Kx; dsimp only; rw[if_neg h1,if_neg h2',if_neg h3,if_pos h]
theorem rE_rest {l:Str} (h1:¬ 40<l.length) (h2:¬ badL l) (h3:OR ((OK 32 l).getD 0 [])≠[]) (h:(OK 32 l).length=(OR ((OK 32 l).getD 0 [])).length+1):Kx l=if KT (OR ((OK 32 l).getD 0 [])) ((OK 32 l).drop 1)≠0 then KT (OR ((OK 32 l).getD 0 [])) ((OK 32 l).drop 1) else if YK (OR ((OK 32 l).getD 0 [])) ((OK 32 l).drop 1) then 1 else 0:=by have h2':¬ ([]∈OK 32 l∨(l.any fun c=>decide (c.toNat<32∨126<c.toNat))=true):=h2; unfold Kx; dsimp only; rw[if_neg h1,if_neg h2',if_neg h3,if_neg (fun x=>x h)]
end Go.Am
namespace Go.Am
theorem X6 {l:List Str} (h:l.length=2):∃ a b,l = [a,b]:=by
 match l,h with
 | [a,b],_=>exact⟨a,b,rfl⟩
theorem four_words {l:List Str} (h:l.length=4):∃ a b c d,l = [a,b,c,d]:=by
 match l,h with
 | [a,b,c,d],_=>exact⟨a,b,c,d,rfl⟩
theorem readE_zero {line:Str} (h:Kx line=0):OR ((OK 32 line).getD 0 [])≠[]∧(OK 32 line).length=(OR ((OK 32 line).getD 0 [])).length+1∧KT (OR ((OK 32 line).getD 0 [])) ((OK 32 line).drop 1)=0:=by
 by_cases h1 : 40<line.length;rw[rE_long h1] at h; cases h;by_cases h2:badL line;rw[rE_bad h1 h2] at h; cases h;by_cases h3:OR ((OK 32 line).getD 0 []) = [];rw[rE_kind h1 h2 h3] at h; cases h;by_cases h4:(OK 32 line).length=(OR ((OK 32 line).getD 0 [])).length+1;rw[rE_rest h1 h2 h3 h4] at h;refine⟨h3,h4,?_⟩;apply Classical.byContradiction;intro hn;rw[if_pos hn] at h;exact hn h;rw[rE_shape h1 h2 h3 h4] at h; cases h
theorem KY {c:UInt8} {f:Str} {w:Str} {l:List Str} (h:KT (c::f) (w::l)=0):Kl c w=0∧KT f l=0:=by
 rw[KT] at h;split at h;rename_i hb; exact⟨hb,h⟩;rename_i hb; exact absurd h hb
theorem form_kind (k:Str):OR k≠[]→k=ON∨k=O2∨k=OZ∨k=OH∨k=OO∨k=OI∨k=OL∨k=OS∨k=OT∨k=OU∨k=OW:=by
 intro h;unfold OR at h;split at h;rename_i q; rcases q with q|q <;> simp[q]
 split at h;rename_i q; simp[q];split at h;rename_i q; rcases q with q|q|q <;> simp[q]
 split at h;rename_i q; simp[q];split at h;rename_i q; rcases q with q|q|q|q <;> simp[q]
 exact absurd rfl h
end Go.Am
namespace Go.Am
theorem getD_set' {α:Type} {l:List α} {i j:Nat} {a d : α} (hi:i<l.length):(l.set i a).getD j d=if j=i then a else l.getD j d:=by
 rw[dE,dE];by_cases h:j=i;subst h;rw[List.getElem?_set_self hi,if_pos rfl]; rfl;rw[List.getElem?_set_ne (fun e=>h e.symm),if_neg h]
theorem VO {O:Off} (nd:(O.ways.map (·.1)).Nodup) {i:Nat} {w:Str} {l:Lane} (h:O.ways[i]? = some (w,l)) (f:Lane→Lane):(O.mod w f).ways=O.ways.set i (w,f l):=X5 f nd h
end Go.Am
namespace Go.Am
theorem Ji {κ ν:Type} [DecidableEq κ] {l:List (κ × ν)} (hn:(l.map (·.1)).Nodup) {k n : κ}:Ot (Xx l k) n=if n=k then none else Ot l n:=by
 induction l with
 | nil=>simp[Xx,Ot]
 | cons p l ih=>
  rw[List.map_cons,List.nodup_cons] at hn;simp only[Xx,Ot];by_cases hk:p.1=k;subst hk;by_cases hnk:n=p.1;subst hnk;simp only[if_pos]
  first|exact XJ hn.1|(rw[if_pos rfl]; exact XJ hn.1)
  simp only[if_neg hnk]
  first|rfl|(rw[if_pos rfl])
  have hk':¬ k=p.1:=fun e=>hk e.symm
  by_cases hnp:n=p.1;subst hnp;simp[hk,hk',Ot];simp[hk,hk',Ot,hnp,ih hn.2]
end Go.Am
namespace Go.Am
theorem Off.ws_len (O:Off):O.ws.length=O.ways.length:=by rw[Off.ws,dW]
theorem Off.ws_get {O:Off} {i:Nat} (h:i<O.ways.length):O.ws.getD i default=⟨(O.ways.getD i default).2.fr,(O.ways.getD i default).2.to,(O.ways.getD i default).2.lo,(O.ways.getD i default).2.hi⟩:=by
 rw[Off.ws,dE,fO,dE,dT h]; rfl
theorem RD {ws ws':List W} {n:List Int} {x:Int}:∀ k:Nat,(∀ i,i<k→(ws'.getD i default).f=(ws.getD i default).f∧(ws'.getD i default).t=(ws.getD i default).t)→KM ws' n x k=KM ws n x k:=by
 intro k
 induction k with
 | zero=>intro _; rfl
 | succ k ih=>
  intro h;rw[KM,KM,ih (fun i hi=>h i aA),(h k aA).1,(h k aA).2]
theorem Flow.move {ws ws':List W} {n:List Int} (hF:Flow ws n) (hl:ws'.length=ws.length) (hft:∀ i,i<ws.length→(ws'.getD i default).f=(ws.getD i default).f∧(ws'.getD i default).t=(ws.getD i default).t) (hb:∀ i,i<ws.length→(ws'.getD i default).l≤n.getD i 0∧n.getD i 0≤(ws'.getD i default).m):Flow ws' n:=by
 refine⟨⟨hF.len.trans hl.symm,fun i hi=>(hb i aA).1,fun i hi=>(hb i aA).2⟩,fun x=>?_⟩;unfold kept;rw[hl,RD _ hft]; exact hF.kp x
def Fit (O:Off):Prop:=∃ n,Flow O.ws n
theorem Ro {r:Int} {ws:List W}:∀ k:Nat,(∀ i,i<k→Kv r (ws.getD i default)=0)→QL r ws k=0:=by
 intro k
 induction k with
 | zero=>intro _; rfl
 | succ k ih=>
  intro h;rw[QL,if_pos (ih (fun i hi=>h i aA))]; exact h k aA
theorem BOk.chk {r:Int} {ws:List W} (h:BOk r ws):KB r ws=0:=by
 unfold KB;rw[if_neg (by have:=h.r2; have:=h.r6; omega),if_neg (by have:=h.len; omega)];refine Ro _ fun i hi=>?_
 have w:=h.way i hi;unfold Kv;rw[if_neg (fun q=>q ⟨w.f0,w.f1,w.t0,w.t1⟩),if_neg w.ne,if_neg (fun q=>q ⟨w.l0,w.lm,w.m1⟩)]
theorem wf_bok {O:Off} (hW:WF O) (h : 0<O.ways.length):BOk O.rm O.ws:=by
 have key:∀ i,i<O.ways.length→WOk O.rm (O.ws.getD i default):=by
  intro i hi;obtain⟨h1,h2,h3⟩:=hW.rk _ (getD_mem (d:=default) hi);obtain⟨h4,h5,h6⟩:=hW.rg _ (getD_mem (d:=default) hi);rw[Off.ws_get hi];unfold Off.rm;exact⟨by dsimp only; omega,by dsimp only; omega,by dsimp only; omega,by dsimp only; omega,by dsimp only; omega,h4,h5,h6⟩
 have h0:=hW.rk _ (getD_mem (d:=default) h);have hr:=hW.rooms;refine⟨?_,?_,by rw[O.ws_len]; exact hW.ways,fun i hi=>key i (by rwa [O.ws_len] at hi)⟩;unfold Off.rm; omega;unfold Off.rm; omega
theorem fit_can {O:Off} (hW:WF O) (hF:Fit O) (h : 0<O.ways.length):XD O.rm O.ws=true:=by
 have hB:=wf_bok hW h;have h2:=hB.r2;have e:O.rm=((O.rm.toNat:Nat):Int):=by omega
 unfold XD;rw[decide_eq_true hB.chk,Bool.true_and];rw[e] at hB;exact(JG hB.inR hB.LM).2 hF
theorem UP {O:Off} (hW:WF O) (hF:Fit O) {i:Nat} (hi:i<O.ways.length):Zp O.rm O.ws i=0:=by
 have hB:=wf_bok hW aA;unfold Zp QD;rw[if_pos hB.chk,if_pos (by rw[O.ws_len]; omega),if_pos hB.chk,if_pos (fit_can hW hF aA)]
theorem can_fit {rm:Int} {ws:List W} (h:XD rm ws=true):∃ n,Flow ws n:=by
 have hc:KB rm ws=0:=by
  unfold XD at h;rw[dF,decide_eq_true_eq] at h;exact h.1
 exact(XB (rm:=rm) (by unfold QD; rw[if_pos hc,if_pos h])).2
theorem Wj {O:Off} {w:Str} {f:Lane→Lane} {l:Lane} (h:O.tries w f l=0):Fit (O.mod w f):=by
 unfold Off.tries at h;split at h;cases h;split at h;rename_i hc; exact can_fit hc;cases h
theorem Jj {O:Off} (nd:(O.ways.map (·.1)).Nodup) {i:Nat} {w:Str} {l:Lane} (h:O.ways[i]? = some (w,l)) (f:Lane→Lane) {j:Nat} (hj:j<O.ways.length):(O.mod w f).ws.getD j default=if j=i then ⟨(f l).fr,(f l).to,(f l).lo,(f l).hi⟩ else O.ws.getD j default:=by
 have hl:i<O.ways.length:=(dU.1 h).1;have hm:=VO nd h f;rw[Off.ws_get (by rw[hm,fY]; exact hj),hm,getD_set' hl];by_cases hji:j=i;rw[if_pos hji,if_pos hji];rw[if_neg hji,if_neg hji,Off.ws_get hj]
theorem JD {O:Off} (nd:(O.ways.map (·.1)).Nodup) {i:Nat} {w:Str} {l:Lane} (h:O.ways[i]? = some (w,l)) {f:Lane→Lane} (h1:(f l).fr=l.fr) (h2:(f l).to=l.to) {n:List Int} (hF:Flow O.ws n) (h3:(f l).lo≤n.getD i 0) (h4:n.getD i 0≤(f l).hi):Flow (O.mod w f).ws n:=by
 have hl:i<O.ways.length:=(dU.1 h).1;have hg:O.ways.getD i default=(w,l):=by rw[dE,h]; rfl
 have hlen:(O.mod w f).ws.length=O.ws.length:=by rw[Off.ws_len,Off.ws_len,VO nd h f,fY]
 refine hF.move hlen (fun j hj=>?_) (fun j hj=>?_);rw[O.ws_len] at hj;rw[Jj nd h f hj];by_cases hji:j=i;subst hji; rw[if_pos rfl,Off.ws_get hj,hg,h1,h2]; exact⟨rfl,rfl⟩;rw[if_neg hji]; exact⟨rfl,rfl⟩;have hj':=hj;rw[O.ws_len] at hj;rw[Jj nd h f hj];by_cases hji:j=i;subst hji; rw[if_pos rfl]; exact⟨h3,h4⟩;rw[if_neg hji]; exact⟨hF.lo j hj',hF.hi j hj'⟩
theorem YB {O:Off} {n:List Int} (hF:Flow O.ws n) {i:Nat} {w:Str} {l:Lane} (h:O.ways[i]? = some (w,l)):l.lo≤n.getD i 0∧n.getD i 0≤l.hi:=by
 have hl:i<O.ways.length:=(dU.1 h).1;have hg:O.ways.getD i default=(w,l):=by rw[dE,h]; rfl
 have h1:=hF.lo i (by rw[O.ws_len]; exact hl);have h2:=hF.hi i (by rw[O.ws_len]; exact hl);rw[Off.ws_get hl,hg] at h1 h2;exact⟨h1,h2⟩
theorem flow_way {ws:List W} {w:W} {n:List Int} (hF:Flow ws n) (h0:w.l≤0) (h1 : 0≤w.m):Flow (ws ++ [w]) (n ++ [0]):=by
 have hl:=hF.len;have g:∀ i,i<ws.length→(ws ++ [w]).getD i default=ws.getD i default:=fun i hi=>XF _ hi
 have g1:∀ i,i<ws.length→(n ++ [0]).getD i 0=n.getD i 0:=fun i hi=>XF _ aA
 have g2:(n ++ [(0:Int)]).getD ws.length 0=0:=by rw[←hl,dE,dN]; rfl
 have g3:(ws ++ [w]).getD ws.length default=w:=by rw[dE,dN]; rfl
 have key:∀ x k,k≤ws.length→KM (ws ++ [w]) (n ++ [0]) x k=KM ws n x k:=by
  intro x k
  induction k with
  | zero=>intro _; rfl
  | succ k ih=>intro hk; rw[KM,KM,ih aA,g k aA,g1 k aA]
 refine⟨⟨by simp[hl],fun i hi=>?_,fun i hi=>?_⟩,fun x=>?_⟩;rw[dK,dH] at hi;by_cases h:i<ws.length;rw[g i h,g1 i h]; exact hF.lo i h;obtain rfl:i=ws.length:=by omega
 rw[g3,g2]; exact h0;rw[dK,dH] at hi;by_cases h:i<ws.length;rw[g i h,g1 i h]; exact hF.hi i h;obtain rfl:i=ws.length:=by omega
 rw[g3,g2]; exact h1;unfold kept;rw[dK,dH,KM,key x _ (Nat.le_refl _),g2,Int.zero_mul,Int.add_zero];exact hF.kp x
theorem Jw {O:Off} {w:Str} {l:Lane} (h:Ot O.ways w=some l):∃ i,i<O.ways.length∧O.ways[i]? = some (w,l):=by
 obtain⟨i,h1,h2,_⟩:=X4 h;exact⟨i,h1,h2⟩
theorem fit_tell {O:Off} (hW:WF O) (hF:Fit O) {t:Tell} (h0:O.wrong t=0):Fit (O.tell t):=by
 obtain⟨n,hn⟩:=hF
 cases t with
 | room r=>exact⟨n,hn⟩
 | way w f t=>
  refine⟨n ++ [0],?_⟩;have:=flow_way (w:=⟨(O0 O.rooms f:Nat),(O0 O.rooms t:Nat),0,99⟩) hn (Int.le_refl _) (show(0:Int)≤99 by decide);show Flow (Off.ws {O with ways:=O.ways ++ [_]}) _;unfold Off.ws;rw[dQ]; exact this
 | bound w m g=>
  obtain⟨l,_,_,h3⟩:=ZA h0;exact Wj h3
 | pack p w=>
  obtain⟨_,l,_,_,_,h3⟩:=XX h0;exact Wj h3
 | move p s=>
  obtain⟨d,hm⟩:=Xt h0;obtain⟨l,hl⟩:=hW.homeM hm;show Fit (match Ot O.packs p with|none=>O|some d=>if s=0 then _ else _);rw[hm];dsimp only;by_cases hs:s=0;rw[if_pos hs];obtain⟨i,h1,h2⟩:=Jw hl;obtain⟨h3,h4⟩:=YB hn h2;have key:Flow (O.mod d.1 fun l=>{l with packs:=l.packs.filter fun q=>!decide (q=p)}).ws n:=JD (f:=fun l=>{l with packs:=l.packs.filter fun q=>!decide (q=p)}) hW.nd h2 rfl rfl hn (Int.le_trans ?_ h3) h4;exact⟨n,key⟩;have hle:=dZ (fun q=>!decide (q=p)) l.packs;unfold Lane.lo;dsimp only;split;exact Int.le_refl _;split <;> omega;rw[if_neg hs]; exact⟨n,hn⟩
 | claim w m=>
  obtain⟨l,hm,hp⟩:=ZX h0;obtain⟨i,h1,h2⟩:=Jw hm;have hpl:l.pl=i:=by
   have:=hW.pl i h1;rwa [show O.ways.getD i default=(w,l) by rw[dE,h2]; rfl] at this
  have ha:=UP hW ⟨n,hn⟩ h1;rw[Q1 hm hp,hpl] at h0;have hlo:O.spLo i=YO O.ws i:=if_pos ha;obtain⟨⟨k,hk,hki⟩,hlow⟩:=Vp ⟨n,hn⟩ (show i<O.ws.length by rw[O.ws_len]; exact h1);have hhi:O.spHi i=Vi O.ws i:=if_pos ha;obtain⟨_,hhigh⟩:=JF ⟨n,hn⟩ (show i<O.ws.length by rw[O.ws_len]; exact h1);have hle:=hhigh k hk;rw[hki] at hle;split at h0;cases h0;split at h0;cases h0;have e:k.getD i 0=m:=by omega
  have key:Flow (O.mod w fun l=>{l with paid:=true,told:=some m}).ws k:=JD (f:=fun l=>{l with paid:=true,told:=some m}) hW.nd h2 rfl rfl hk (by show m≤_; omega) (by show _≤m; omega);exact⟨k,key⟩
 | free w=>
  obtain⟨l,hm,hp⟩:=Xs h0;obtain⟨i,h1,h2⟩:=Jw hm;obtain⟨h3,h4⟩:=YB hn h2;obtain⟨_,_,h5⟩:=hW.rgM hm;have key:Flow (O.mod w fun l=>{l with told:=none,top:=none}).ws n:=JD (f:=fun l=>{l with told:=none,top:=none}) hW.nd h2 rfl rfl hn (Int.le_trans ?_ h3) (Int.le_trans h4 ?_);exact⟨n,key⟩;unfold Lane.lo;dsimp only;rw[hp];simp only[Bool.false_eq_true,if_false];split <;> omega;unfold Lane.hi at h5⊢;rw[hp] at h5⊢;simpa using h5
theorem Done.fit {lines:List Str} (hD:Done lines):Fit (after lines):=by
 induction hD with
 | nil=>exact⟨[],⟨rfl,fun i h=>(by cases h),fun i h=>(by cases h)⟩,fun x=>rfl⟩
 | @snoc lines line h he ih=>
  rw[Zd];exact fit_tell h.wf.1 ih (Q8 he).2.1
end Go.Am
namespace Go.Am
inductive WT (W:List Str) (t:Tell):Prop where
  | room (a:Str) (h:W = [ON,a]) (e:t = .room a) (ha:QW a=true)
  | way (a b c:Str) (h:W = [OZ,a,b,c]) (e:t = .way a b c) (ha:QW a=true) (hb:QW b=true) (hc:QW c=true)
  | least (a m:Str) (h:W = [OH,a,m]) (e:t = .bound a (K8 m) false) (ha:QW a=true) (hm:KU m 3=true)
  | most (a m:Str) (h:W = [OO,a,m]) (e:t = .bound a (K8 m) true) (ha:QW a=true) (hm:KU m 3=true)
  | free (a:Str) (h:W = [O2,a]) (e:t = .free a) (ha:QW a=true)
  | claim (a m:Str) (h:W = [OI,a,m]) (e:t = .claim a (K8 m)) (ha:QW a=true) (hm:KU m 3=true)
  | pack (m a:Str) (h:W = [OL,m,a]) (e:t = .pack (K8 m) a) (hm:KU m 3=true) (ha:QW a=true)
  | move (k m:Str) (s:Int) (hk:(k=OS∧s=2)∨(k=OT∧s=3)∨(k=OU∧s=1)∨(k=OW∧s=0)) (h:W = [k,m]) (e:t = .move (K8 m) s) (hm:KU m 3=true)
theorem Zu {w:Str} (h:Kl 119 w=0):QW w=true:=by
 rw[Kl,if_pos rfl] at h;split at h;assumption;cases h
theorem Xa {c:UInt8} {w:Str} (h:Kl c w=0) (hc:c≠119):KU w 3=true:=by
 rw[Kl,if_neg hc] at h;split at h;assumption;cases h
theorem wt_of {line:Str} (h:Kx line=0):WT (OK 32 line) (KV line):=by
 obtain⟨h1,h2,h3⟩:=readE_zero h;have e2:KV line=Qu (OK 32 line) (YR (OR ((OK 32 line).getD 0 [])) ((OK 32 line).drop 1) 0):=rfl;rw[e2];clear e2 h;generalize OK 32 line=W at *;rcases form_kind _ h1 with q|q|q|q|q|q|q|q|q|q|q <;> rw[q] at h2 h3
 obtain⟨k,a,rfl⟩:=X6 (show W.length=2 from h2);obtain rfl:k=ON:=q;exact .room a rfl rfl (Zu (KY (show KT [119] [a]=0 from h3)).1);obtain⟨k,a,rfl⟩:=X6 (show W.length=2 from h2);obtain rfl:k=O2:=q;exact .free a rfl rfl (Zu (KY (show KT [119] [a]=0 from h3)).1);obtain⟨k,a,b,c,rfl⟩:=four_words (show W.length=4 from h2);obtain rfl:k=OZ:=q;have g1:=KY (show KT [119,119,119] [a,b,c]=0 from h3);have g2:=KY g1.2;have g3:=KY g2.2;exact .way a b c rfl rfl (Zu g1.1) (Zu g2.1) (Zu g3.1);obtain⟨k,a,b,rfl⟩:=Yh (show W.length=3 from h2);obtain rfl:k=OH:=q;have g1:=KY (show KT [119,110] [a,b]=0 from h3);exact .least a b rfl rfl (Zu g1.1) (Xa (KY g1.2).1 aD);obtain⟨k,a,b,rfl⟩:=Yh (show W.length=3 from h2);obtain rfl:k=OO:=q;have g1:=KY (show KT [119,110] [a,b]=0 from h3);exact .most a b rfl rfl (Zu g1.1) (Xa (KY g1.2).1 aD);obtain⟨k,a,b,rfl⟩:=Yh (show W.length=3 from h2);obtain rfl:k=OI:=q;have g1:=KY (show KT [119,110] [a,b]=0 from h3);exact .claim a b rfl rfl (Zu g1.1) (Xa (KY g1.2).1 aD);obtain⟨k,a,b,rfl⟩:=Yh (show W.length=3 from h2);obtain rfl:k=OL:=q;have g1:=KY (show KT [112,119] [a,b]=0 from h3);exact .pack a b rfl rfl (Xa g1.1 aD) (Zu (KY g1.2).1);obtain⟨k,a,rfl⟩:=X6 (show W.length=2 from h2);obtain rfl:k=OS:=q;exact .move OS a 2 (.inl ⟨rfl,rfl⟩) rfl rfl (Xa (KY (show KT [112] [a]=0 from h3)).1 aD);obtain⟨k,a,rfl⟩:=X6 (show W.length=2 from h2);obtain rfl:k=OT:=q;exact .move OT a 3 (.inr (.inl ⟨rfl,rfl⟩)) rfl rfl (Xa (KY (show KT [112] [a]=0 from h3)).1 aD);obtain⟨k,a,rfl⟩:=X6 (show W.length=2 from h2);obtain rfl:k=OU:=q;exact .move OU a 1 (.inr (.inr (.inl ⟨rfl,rfl⟩))) rfl rfl (Xa (KY (show KT [112] [a]=0 from h3)).1 aD);obtain⟨k,a,rfl⟩:=X6 (show W.length=2 from h2);obtain rfl:k=OW:=q;exact .move OW a 0 (.inr (.inr (.inr ⟨rfl,rfl⟩))) rfl rfl (Xa (KY (show KT [112] [a]=0 from h3)).1 aD)
def atV (w:Str):Int:=if KU w 3 then K8 w else 0
structure Hs where
  rooms:List Str
  ways:List Str
  ends:List (Str × (Int × Int))
  told:List (Str × (Int × Int))
  paid:List (Str × Int)
  claims:List Str
  packs:List (Int × Str)
  state:List (Int × Int)
  order:List Int
def hs0:Hs:=⟨[],[],[],[],[],[],[],[],[]⟩
def Hs.tolds (h:Hs) (w:Str):Int × Int:=(Ot h.told w).getD (0,0)
def K7 (h:Hs) (W:List Str):Hs:=
  let g:=fun i=>W.getD i []
  if g 0=ON then {h with rooms:=h.rooms ++ [g 1]}
  else if g 0=OZ then {h with ways:=h.ways ++ [g 1],ends:=O9 h.ends (g 1) (ixE h.rooms (g 2),ixE h.rooms (g 3)),told:=O9 h.told (g 1) (0,99)}
  else if g 0=OH then {h with told:=O9 h.told (g 1) (atV (g 2),(h.tolds (g 1)).2)}
  else if g 0=OO then {h with told:=O9 h.told (g 1) ((h.tolds (g 1)).1,atV (g 2))}
  else if g 0=O2 then {h with told:=O9 h.told (g 1) (0,99)}
  else if g 0=OI then {h with paid:=O9 h.paid (g 1) (atV (g 2)),claims:=h.claims ++ [g 1]}
  else if g 0=OL then {h with packs:=O9 h.packs (atV (g 1)) (g 2),state:=O9 h.state (atV (g 1)) 1,order:=h.order ++ [atV (g 1)]}
  else if g 0=OS then {h with state:=O9 h.state (atV (g 1)) 2}
  else if g 0=OT then {h with state:=O9 h.state (atV (g 1)) 3}
  else if g 0=OU then {h with state:=O9 h.state (atV (g 1)) 1}
  else if g 0=OW then {h with state:=O9 h.state (atV (g 1)) 0}
  else h
def ZF (lines:List Str):Hs:=lines.foldl (fun h x=>K7 h (OK 32 x)) hs0
theorem QS (lines:List Str) (x:Str):ZF (lines ++ [x])=K7 (ZF lines) (OK 32 x):=by simp[ZF]
def Hs.stt (h:Hs) (k:Int):Int:=(Ot h.state k).getD 0
def Hs.pks (h:Hs) (w:Str):List Int:=h.order.filter fun k=>decide ((Ot h.packs k).getD []=w) && decide (0<h.stt k)
structure HRl (O:Off) (h:Hs):Prop where
  rooms:h.rooms=O.rooms
  ways:h.ways=O.ways.map (·.1)
  ends:h.ends=O.ways.map fun p=>(p.1,((p.2.fr:Int),(p.2.to:Int)))
  told:h.told.map (·.1)=O.ways.map (·.1)
  toldU:∀ w l,Ot O.ways w=some l→l.paid=false→Ot h.told w=some (l.told.getD 0,l.top.getD 99)
  claims:h.claims=O.claims
  paidK:h.paid.map (·.1)=O.claims
  paid:∀ w l,Ot O.ways w=some l→Ot h.paid w=if l.paid then some (l.told.getD 0) else none
  packs:h.packs.map (·.1)=O.ever
  order:h.order=O.ever
  ever:O.ever.Nodup
  state:h.state.map (·.1)=O.ever
  st:∀ k,k∈O.ever→Ot h.state k=some (match Ot O.packs k with|some d=>d.2|none=>0)
  d3:∀ k d,Ot O.packs k=some d→d.2=1∨d.2=2∨d.2=3
  pk:∀ k d,Ot O.packs k=some d→Ot h.packs k=some d.1
  lane:∀ w l,Ot O.ways w=some l→l.packs=h.pks w
  least:∀ w l,Ot O.ways w=some l→(l.packs.length:Int)≤l.lo
theorem hs_room (h:Hs) (a:Str):K7 h [ON,a] = {h with rooms:=h.rooms ++ [a]}:=by
 unfold K7; simp only[dI,dO]; rw[if_pos trivial]
theorem hs_way (h:Hs) (a b c:Str):K7 h [OZ,a,b,c] = {h with ways:=h.ways ++ [a],ends:=O9 h.ends a (ixE h.rooms b,ixE h.rooms c),told:=O9 h.told a (0,99)}:=by
 unfold K7; simp only[dI,dO]; rw[if_neg aD,if_pos trivial]
theorem hs_least (h:Hs) (a m:Str):K7 h [OH,a,m] = {h with told:=O9 h.told a (atV m,(h.tolds a).2)}:=by
 unfold K7; simp only[dI,dO]; rw[if_neg aD,if_neg aD,if_pos trivial]
theorem hs_most (h:Hs) (a m:Str):K7 h [OO,a,m] = {h with told:=O9 h.told a ((h.tolds a).1,atV m)}:=by
 unfold K7; simp only[dI,dO]; rw[if_neg aD,if_neg aD,if_neg aD,if_pos trivial]
theorem hs_free (h:Hs) (a:Str):K7 h [O2,a] = {h with told:=O9 h.told a (0,99)}:=by
 unfold K7; simp only[dI,dO]; rw[if_neg aD,if_neg aD,if_neg aD,if_neg aD,if_pos trivial]
theorem hs_claim (h:Hs) (a m:Str):K7 h [OI,a,m] = {h with paid:=O9 h.paid a (atV m),claims:=h.claims ++ [a]}:=by
 unfold K7; simp only[dI,dO]; rw[if_neg aD,if_neg aD,if_neg aD,if_neg aD,if_neg aD,if_pos trivial]
theorem hs_pack (h:Hs) (m a:Str):K7 h [OL,m,a] = {h with packs:=O9 h.packs (atV m) a,state:=O9 h.state (atV m) 1,order:=h.order ++ [atV m]}:=by
 unfold K7; simp only[dI,dO]; rw[if_neg aD,if_neg aD,if_neg aD,if_neg aD,if_neg aD,if_neg aD,if_pos trivial]
theorem hs_move (h:Hs) (k m:Str) (s:Int) (hk:(k=OS∧s=2)∨(k=OT∧s=3)∨(k=OU∧s=1)∨(k=OW∧s=0)):K7 h [k,m] = {h with state:=O9 h.state (atV m) s}:=by
 unfold K7; simp only[dI,dO];rcases hk with ⟨rfl,rfl⟩|⟨rfl,rfl⟩|⟨rfl,rfl⟩|⟨rfl,rfl⟩
 rw[if_neg aD,if_neg aD,if_neg aD,if_neg aD,if_neg aD,if_neg aD,if_neg aD,if_pos rfl];rw[if_neg aD,if_neg aD,if_neg aD,if_neg aD,if_neg aD,if_neg aD,if_neg aD,if_neg aD,if_pos rfl];rw[if_neg aD,if_neg aD,if_neg aD,if_neg aD,if_neg aD,if_neg aD,if_neg aD,if_neg aD,if_neg aD,if_pos rfl];rw[if_neg aD,if_neg aD,if_neg aD,if_neg aD,if_neg aD,if_neg aD,if_neg aD,if_neg aD,if_neg aD,if_neg aD,if_pos rfl]
theorem X0 {m:Str} (h:KU m 3=true):atV m=K8 m:=by unfold atV; rw[if_pos h]
theorem VK {l:Lane} (hp:l.paid=false):(l.packs.length:Int)≤l.lo:=by
 unfold Lane.lo;rw[if_neg bJ];split <;> omega
theorem J8 {κ ν:Type} [DecidableEq κ] {l:List (κ × ν)} {k : κ} {v : ν} (h:Ot l k=some v):k∈l.map (·.1):=(Vl l k).1 (by rw[h]; rfl)
theorem VL {β:Type} {ws:List (Str × Lane)} {w:Str} {f:Lane→Lane} {g:Str × Lane→β} (h:∀ l,g (w,f l)=g (w,l)):(Qi ws w f).map g=ws.map g:=by
 unfold Qi;rw[fI];refine List.map_congr_left fun p _=>?_
 show g (if p.1=w then (p.1,f p.2) else p)=g p;split;rename_i e; rw[e,h,←e];rfl
theorem Rz {α:Type} (l:List α) (x : α) (p : α→Bool):(l ++ [x]).filter p=l.filter p ++ if p x then [x] else []:=by
 rw[List.filter_append]
 cases hx:p x <;> simp[hx]
theorem hr_mod {O : Off} {h h' : Hs} (hr : HRl O h) {a : Str} {l : Lane} (hm : Ot O.ways a = some l) {f : Lane → Lane} (h1 : ∀ l, (f l).fr = l.fr ∧ (f l).to = l.to ∧ (f l).packs = l.packs)
    (hp:(f l).paid=false) (hl:l.paid=false) (he:h' = {h with told:=O9 h.told a ((f l).told.getD 0,(f l).top.getD 99)}):HRl (O.mod a f) h':=by
 subst he;have hk:a∈O.ways.map (·.1):=J8 hm;have hc:∀ x,Ot (O.mod a f).ways x=if x=a then some (f l) else Ot O.ways x:=by
  intro x;show Ot (Qi O.ways a f) x=_;rw[Zx];by_cases hx:x=a;subst hx; rw[if_pos rfl,if_pos rfl,hm]; rfl;rw[if_neg hx,if_neg hx]
 have hn:(O.mod a f).ways.map (·.1)=O.ways.map (·.1):=Zf _ _ _;refine⟨hr.rooms,by rw[hn]; exact hr.ways,?_,?_,?_,hr.claims,hr.paidK,?_,hr.packs,hr.order,hr.ever,hr.state,hr.st,hr.d3,hr.pk,?_,?_⟩;show h.ends=(Qi O.ways a f).map _;rw[VL (g:=fun p=>(p.1,((p.2.fr:Int),(p.2.to:Int)))) (fun l=>by dsimp only; rw[(h1 l).1,(h1 l).2.1])]; exact hr.ends;show(O9 h.told a _).map (·.1)=_;rw[Xe,hr.told,if_pos hk,hn];intro w v hv hp2;rw[hc] at hv;show Ot (O9 h.told a _) w=_;rw[K4];by_cases hw:w=a;rw[if_pos hw] at hv⊢; cases hv; rfl;rw[if_neg hw] at hv⊢; exact hr.toldU w v hv hp2;intro w v hv;rw[hc] at hv;show Ot h.paid w=_;by_cases hw:w=a;rw[if_pos hw] at hv; cases hv;rw[hw,hr.paid a l hm,hl,hp]; rfl;rw[if_neg hw] at hv; exact hr.paid w v hv;intro w v hv;rw[hc] at hv;show v.packs=h.pks w;by_cases hw:w=a;rw[if_pos hw] at hv; cases hv;rw[(h1 l).2.2,hw]; exact hr.lane a l hm;rw[if_neg hw] at hv; exact hr.lane w v hv;intro w v hv;rw[hc] at hv;by_cases hw:w=a;rw[if_pos hw] at hv; cases hv;exact VK hp;rw[if_neg hw] at hv; exact hr.least w v hv
theorem hr_tell {O:Off} {h:Hs} {W:List Str} {t:Tell} (hW:WF O) (hF:Fit O) (hC:Clm O) (hr:HRl O h) (wt:WT W t) (h0:O.wrong t=0):HRl (O.tell t) (K7 h W):=by
 cases wt with
 | room a e1 e2=>
  subst e1; subst e2;rw[hs_room];exact⟨by show h.rooms ++ [a]=O.rooms ++ [a]; rw[hr.rooms],hr.ways,hr.ends,hr.told,hr.toldU,hr.claims,hr.paidK,hr.paid,hr.packs,hr.order,hr.ever,hr.state,hr.st,hr.d3,hr.pk,hr.lane,hr.least⟩
 | least a m e1 e2 _ hm=>
  subst e1; subst e2;obtain⟨l,hl,hp,_⟩:=ZA h0;rw[hs_least,X0 hm];refine hr_mod hr hl (f:=chB (K8 m) false) (fun l=>⟨rfl,rfl,rfl⟩) hp hp ?_;unfold Hs.tolds;rw[hr.toldU a l hl hp]; rfl
 | most a m e1 e2 _ hm=>
  subst e1; subst e2;obtain⟨l,hl,hp,_⟩:=ZA h0;rw[hs_most,X0 hm];refine hr_mod hr hl (f:=chB (K8 m) true) (fun l=>⟨rfl,rfl,rfl⟩) hp hp ?_;unfold Hs.tolds;rw[hr.toldU a l hl hp]; rfl
 | free a e1 e2=>
  subst e1; subst e2;obtain⟨l,hl,hp⟩:=Xs h0;rw[hs_free];exact hr_mod hr hl (f:=fun l=>{l with told:=none,top:=none}) (fun l=>⟨rfl,rfl,rfl⟩) hp hp rfl
 | way a b c e1 e2=>
  subst e1; subst e2;obtain⟨hw,hf,ht,_,_⟩:=Jp h0;rw[hs_way];have hc:∀ x,Ot (O.tell (.way a b c)).ways x=if x=a then some ⟨O.ways.length,O0 O.rooms b,O0 O.rooms c,none,none,[],false⟩ else Ot O.ways x:=by
   intro x;show Ot (O.ways ++ [(a,_)]) x=_;rw[←YQ hw,K4]
  have hn:(O.tell (.way a b c)).ways.map (·.1)=O.ways.map (·.1) ++ [a]:=by
   show(O.ways ++ [_]).map (fun p:Str × Lane=>p.1)=_;rw[dQ]; rfl
  refine⟨hr.rooms,?_,?_,?_,?_,hr.claims,hr.paidK,?_,hr.packs,hr.order,hr.ever,hr.state,hr.st,hr.d3,hr.pk,?_,?_⟩;show h.ways ++ [a]=_;rw[hn,hr.ways];show O9 h.ends a _=(O.ways ++ [_]).map _;have hk:h.ends.map (·.1)=O.ways.map (·.1):=by rw[hr.ends,fI]; rfl
  rw[YQ (by rw[hk]; exact hw),dQ,hr.ends,hr.rooms];unfold ixE;rw[if_pos hf,if_pos ht]; rfl;show(O9 h.told a _).map (·.1)=_;rw[Xe,hr.told,if_neg hw,hn];intro w v hv hp;rw[hc] at hv;show Ot (O9 h.told a _) w=_;rw[K4];by_cases hx:w=a;rw[if_pos hx] at hv⊢; cases hv; rfl;rw[if_neg hx] at hv⊢; exact hr.toldU w v hv hp;intro w v hv;rw[hc] at hv;by_cases hx:w=a;rw[if_pos hx] at hv; cases hv;show Ot h.paid w=none;refine XJ ?_;rw[hr.paidK,hx];intro hcl;obtain⟨l,hl,_⟩:=hC a hcl;exact hw (J8 hl);rw[if_neg hx] at hv; exact hr.paid w v hv
  ·intro w v hv;rw[hc] at hv;by_cases hx:w=a
   ·rw[if_pos hx] at hv; cases hv;show []=h.pks w;symm;refine List.filter_eq_nil_iff.2 fun k hk=>?_
    rw[hr.order] at hk;intro hcn;simp only[dF,decide_eq_true_eq] at hcn;obtain⟨h1,h2⟩:=hcn;unfold Hs.stt at h2;rw[hr.st k hk] at h2
    cases hd:Ot O.packs k with
    | none=>rw[hd] at h2; exact absurd h2 aD
    | some d=>
     rw[hr.pk k d hd] at h1;obtain⟨i,_,hi,_⟩:=X4 hd;have:=hW.home _ (fE hi);rw[show(k,d).2.1=a by rw[←hx]; exact h1] at this;exact hw this
   rw[if_neg hx] at hv; exact hr.lane w v hv
  intro w v hv;rw[hc] at hv;by_cases hx:w=a;rw[if_pos hx] at hv; cases hv;exact VK rfl;rw[if_neg hx] at hv; exact hr.least w v hv
 | claim a m e1 e2 _ hm=>
  subst e1; subst e2;obtain⟨l,hl,hp⟩:=ZX h0;rw[hs_claim,X0 hm];have hnc:a ∉ O.claims:=by
   intro hcl;obtain⟨l2,h1,h2⟩:=hC a hcl;rw[hl] at h1; cases h1;rw[hp] at h2; cases h2
  have hc:∀ x,Ot (O.tell (.claim a (K8 m))).ways x=if x=a then some {l with paid:=true,told:=some (K8 m)} else Ot O.ways x:=by
   intro x;show Ot (Qi O.ways a (fun l=>{l with paid:=true,told:=some (K8 m)})) x=_;rw[Zx];by_cases hx:x=a;subst hx; rw[if_pos rfl,if_pos rfl,hl]; rfl;rw[if_neg hx,if_neg hx]
  have hn:(O.tell (.claim a (K8 m))).ways.map (·.1)=O.ways.map (·.1):=Zf _ _ (fun l=>{l with paid:=true,told:=some (K8 m)});refine⟨hr.rooms,by rw[hn]; exact hr.ways,?_,by rw[hn]; exact hr.told,?_,?_,?_,?_,hr.packs,hr.order,hr.ever,hr.state,hr.st,hr.d3,hr.pk,?_,?_⟩;show h.ends=(Qi O.ways a (fun l=>{l with paid:=true,told:=some (K8 m)})).map fun p=>(p.1,((p.2.fr:Int),(p.2.to:Int)))
  rw[VL (w:=a) (f:=(fun l=>{l with paid:=true,told:=some (K8 m)})) (g:=fun p=>(p.1,((p.2.fr:Int),(p.2.to:Int)))) (fun l=>rfl)]; exact hr.ends;intro w v hv hp2;rw[hc] at hv;by_cases hx:w=a;rw[if_pos hx] at hv; cases hv; cases hp2;rw[if_neg hx] at hv; exact hr.toldU w v hv hp2;show h.claims ++ [a]=O.claims ++ [a];rw[hr.claims];show(O9 h.paid a _).map (·.1)=O.claims ++ [a];rw[Xe,hr.paidK,if_neg hnc];intro w v hv;rw[hc] at hv;show Ot (O9 h.paid a _) w=_;rw[K4];by_cases hx:w=a;rw[if_pos hx] at hv⊢; cases hv; rfl;rw[if_neg hx] at hv⊢; exact hr.paid w v hv;intro w v hv;rw[hc] at hv;by_cases hx:w=a;rw[if_pos hx] at hv; cases hv; rw[hx]; exact hr.lane a l hl;rw[if_neg hx] at hv; exact hr.lane w v hv;intro w v hv;rw[hc] at hv;by_cases hx:w=a;rw[if_pos hx] at hv; cases hv;show(l.packs.length:Int)≤K8 m;obtain⟨i,h1,h2⟩:=Jw hl;have hpl:l.pl=i:=by
   have:=hW.pl i h1;rwa [show O.ways.getD i default=(a,l) by rw[dE,h2]; rfl] at this
  have ha:=UP hW hF h1;rw[Q1 hl hp,hpl] at h0;have hlo:O.spLo i=YO O.ws i:=if_pos ha;obtain⟨⟨k,hk,hki⟩,_⟩:=Vp hF (show i<O.ws.length by rw[O.ws_len]; exact h1);obtain⟨h3,_⟩:=YB hk h2;have:=hr.least a l hl;split at h0;cases h0;omega;rw[if_neg hx] at hv; exact hr.least w v hv
 | pack m a e1 e2 hm=>
  subst e1; subst e2;obtain⟨hev,l,hl,_,hlt,_⟩:=XX h0;rw[hs_pack,X0 hm];generalize K8 m=p at *;have hnp:p ∉ O.packs.map (·.1):=fun hx=>by obtain⟨q,hq,e⟩:=List.mem_map.1 hx; exact hev (e ▸ hW.pev q hq)
  have hc:∀ x,Ot (O.tell (.pack p a)).ways x=if x=a then some (chP p l) else Ot O.ways x:=by
   intro x;show Ot (Qi O.ways a _) x=_;rw[Zx];by_cases hx:x=a;subst hx; rw[if_pos rfl,if_pos rfl,hl]; rfl;rw[if_neg hx,if_neg hx]
  have hcp:∀ x,Ot (O.tell (.pack p a)).packs x=if x=p then some (a,1) else Ot O.packs x:=by
   intro x;show Ot (O.packs ++ [(p,(a,1))]) x=_;rw[←YQ hnp,K4]
  have hn:(O.tell (.pack p a)).ways.map (·.1)=O.ways.map (·.1):=Zf _ _ _;have hpks:∀ w,({h with packs:=O9 h.packs p a,state:=O9 h.state p 1,order:=h.order ++ [p]}:Hs).pks w=h.pks w ++ if a=w then [p] else []:=by
   intro w;unfold Hs.pks Hs.stt;dsimp only;rw[Rz];congr 1;refine dS fun k hk=>?_
   rw[hr.order] at hk;have hkp:k≠p:=fun e=>hev (e ▸ hk)
   rw[K4,K4,if_neg hkp,if_neg hkp];rw[K4,K4,if_pos rfl,if_pos rfl];by_cases hx:a=w;rw[if_pos hx,if_pos (by simp[hx])];rw[if_neg hx,if_neg (by simp[hx])]
  refine⟨hr.rooms,by rw[hn]; exact hr.ways,?_,by rw[hn]; exact hr.told,?_,hr.claims,hr.paidK,?_,?_,?_,?_,?_,?_,?_,?_,?_,?_⟩;show h.ends=(Qi O.ways a (chP p)).map fun p=>(p.1,((p.2.fr:Int),(p.2.to:Int)))
  rw[VL (w:=a) (f:=chP p) (g:=fun p=>(p.1,((p.2.fr:Int),(p.2.to:Int)))) (fun l=>rfl)]; exact hr.ends;intro w v hv hp2;rw[hc] at hv;by_cases hx:w=a;rw[if_pos hx] at hv; cases hv; rw[hx]; exact hr.toldU a l hl hp2;rw[if_neg hx] at hv; exact hr.toldU w v hv hp2;intro w v hv;rw[hc] at hv;by_cases hx:w=a;rw[if_pos hx] at hv; cases hv; rw[hx]; exact hr.paid a l hl;rw[if_neg hx] at hv; exact hr.paid w v hv;show(O9 h.packs p a).map (·.1)=O.ever ++ [p];rw[Xe,hr.packs,if_neg hev];show h.order ++ [p]=O.ever ++ [p];rw[hr.order];exact VP hr.ever hev;show(O9 h.state p 1).map (·.1)=O.ever ++ [p];rw[Xe,hr.state,if_neg hev];intro k hk;rw[hcp];show Ot (O9 h.state p 1) k=_;rw[K4];by_cases hx:k=p;rw[if_pos hx,if_pos hx];rw[if_neg hx,if_neg hx];refine hr.st k ?_;have hk2:k∈O.ever ++ [p]:=hk;rcases List.mem_append.1 hk2 with h1|h1
  exact h1;exact absurd (List.mem_singleton.1 h1) hx;intro k d hd;rw[hcp] at hd;by_cases hx:k=p;rw[if_pos hx] at hd; cases hd; exact .inl rfl;rw[if_neg hx] at hd; exact hr.d3 k d hd;intro k d hd;rw[hcp] at hd;show Ot (O9 h.packs p a) k=_;rw[K4];by_cases hx:k=p;rw[if_pos hx] at hd⊢; cases hd; rfl;rw[if_neg hx] at hd⊢; exact hr.pk k d hd;intro w v hv;rw[hc] at hv;rw[hpks];by_cases hx:w=a;rw[if_pos hx] at hv; cases hv;rw[if_pos hx.symm,hx,←hr.lane a l hl]; rfl;rw[if_neg hx] at hv;rw[if_neg (fun e=>hx e.symm),List.append_nil]; exact hr.lane w v hv
  ·intro w v hv;rw[hc] at hv;by_cases hx:w=a
   ·rw[if_pos hx] at hv; cases hv
    cases hpd:l.paid with
    | false=>exact VK hpd
    | true=>
     have h1:(chP p l).lo=l.hi:=by
      unfold Lane.lo Lane.hi;rw[if_pos (show(chP p l).paid=true from hpd),if_pos hpd]; rfl
     rw[h1];show((l.packs ++ [p]).length:Int)≤_;rw[dK,dH]; omega
   rw[if_neg hx] at hv; exact hr.least w v hv
 | move k m s hk e1 e2 hm=>
  subst e1; subst e2;obtain⟨d,hd⟩:=Xt h0;rw[hs_move h k m s hk,X0 hm];generalize K8 m=p at *;have hpe:p∈O.ever:=by
   obtain⟨i,_,hi,_⟩:=X4 hd;exact hW.pev _ (fE hi)
  have hs3:s=0∨s=1∨s=2∨s=3:=by rcases hk with ⟨_,e⟩|⟨_,e⟩|⟨_,e⟩|⟨_,e⟩ <;> omega
  have hpkd:=hr.pk p d hd;have hpks:∀ w,({h with state:=O9 h.state p s}:Hs).pks w=if s=0 then (h.pks w).filter fun q=>!decide (q=p) else h.pks w:=by
   intro w;unfold Hs.pks Hs.stt;dsimp only;by_cases hs:s=0;rw[if_pos hs,List.filter_filter];refine dS fun k hk=>?_
   rw[K4];by_cases hx:k=p;rw[if_pos hx,hs]; simp[hx];rw[if_neg hx]; simp[hx];rw[if_neg hs];refine dS fun k hk=>?_
   rw[K4];by_cases hx:k=p;rw[if_pos hx];have h1:=hr.st p hpe;rw[hd] at h1;dsimp only at h1;rw[hx,h1];have h2:=hr.d3 p d hd;congr 1;rw[decide_eq_decide];show 0<s↔0<d.2;omega;rw[if_neg hx]
  have hst:(O9 h.state p s).map (·.1)=O.ever:=by rw[Xe,hr.state,if_pos hpe]
  by_cases hs:s=0;subst hs;have e:O.tell (.move p 0) = {O.mod d.1 (fun l=>{l with packs:=l.packs.filter fun q=>!decide (q=p)}) with packs:=Xx O.packs p}:=by
   unfold Off.tell; dsimp only; rw[hd]; dsimp only; rw[if_pos rfl]
  rw[e];obtain⟨l,hl⟩:=hW.homeM hd;have hc:∀ x,Ot (Qi O.ways d.1 fun l=>{l with packs:=l.packs.filter fun q=>!decide (q=p)}) x=(Ot O.ways x).map fun l=>if x=d.1 then {l with packs:=l.packs.filter fun q=>!decide (q=p)} else l:=by
   intro x;rw[Zx];by_cases hx:x=d.1;rw[if_pos hx]; congr 1; funext l; rw[if_pos hx];rw[if_neg hx]; cases Ot O.ways x <;> simp[hx]
  have hn:=Zf O.ways d.1 fun l=>{l with packs:=l.packs.filter fun q=>!decide (q=p)}
  refine⟨hr.rooms,by rw[hr.ways]; exact hn.symm,?_,by rw[hr.told]; exact hn.symm,?_,hr.claims,hr.paidK,?_,hr.packs,hr.order,hr.ever,hst,?_,?_,?_,?_,?_⟩;show h.ends=(Qi O.ways d.1 (fun l=>{l with packs:=l.packs.filter fun q=>!decide (q=p)})).map fun p=>(p.1,((p.2.fr:Int),(p.2.to:Int)))
  rw[VL (w:=d.1) (f:=(fun l=>{l with packs:=l.packs.filter fun q=>!decide (q=p)})) (g:=fun p=>(p.1,((p.2.fr:Int),(p.2.to:Int)))) (fun l=>rfl)]; exact hr.ends;intro w v hv hp2;have hv2:=(hc w).symm.trans hv;rw[dM] at hv2;obtain⟨l2,h1,rfl⟩:=hv2;have h2:=hr.toldU w l2 h1 (by split at hp2 <;> exact hp2);split <;> exact h2;intro w v hv;have hv2:=(hc w).symm.trans hv;rw[dM] at hv2;obtain⟨l2,h1,rfl⟩:=hv2;have h2:=hr.paid w l2 h1;split <;> exact h2;intro k hk;show Ot (O9 h.state p 0) k=some (match Ot (Xx O.packs p) k with|some d=>d.2|none=>0);rw[K4,Ji hW.pnd];by_cases hx:k=p;rw[if_pos hx,if_pos hx];rw[if_neg hx,if_neg hx]; exact hr.st k hk;intro k d' hd';have hd2:Ot (Xx O.packs p) k=some d':=hd';rw[Ji hW.pnd] at hd2;split at hd2;cases hd2;exact hr.d3 k d' hd2;intro k d' hd';have hd2:Ot (Xx O.packs p) k=some d':=hd';rw[Ji hW.pnd] at hd2;split at hd2;cases hd2;exact hr.pk k d' hd2;intro w v hv;have hv2:=(hc w).symm.trans hv;rw[dM] at hv2;obtain⟨l2,h1,rfl⟩:=hv2;rw[hpks,if_pos rfl,←hr.lane w l2 h1];by_cases hx:w=d.1;rw[if_pos hx];rw[if_neg hx];symm;refine List.filter_eq_self.2 fun k hk=>?_
  rw[hr.lane w l2 h1] at hk;have h3:=(List.mem_filter.1 hk).2;simp only[dF,decide_eq_true_eq] at h3;have hkp:k≠p:=by
   intro e;rw[e,hpkd] at h3;exact hx h3.1.symm
  simp[hkp];intro w v hv;have hv2:=(hc w).symm.trans hv;rw[dM] at hv2;obtain⟨l2,h1,rfl⟩:=hv2;by_cases hx:w=d.1;rw[if_pos hx];by_cases hpd:l2.paid=true;have h3:=hr.least w l2 h1;have h5:=dZ (fun q=>!decide (q=p)) l2.packs;unfold Lane.lo at h3⊢;dsimp only at h3 h5⊢;rw[if_pos hpd] at h3;rw[if_pos hpd];omega;exact VK (l:={l2 with packs:=l2.packs.filter fun q=>!decide (q=p)}) (by simpa using hpd);rw[if_neg hx]; exact hr.least w l2 h1;have e:O.tell (.move p s) = {O with packs:=O9 O.packs p (d.1,s)}:=by
   unfold Off.tell; dsimp only; rw[hd]; dsimp only; rw[if_neg hs]
  rw[e];refine⟨hr.rooms,hr.ways,hr.ends,hr.told,hr.toldU,hr.claims,hr.paidK,hr.paid,hr.packs,hr.order,hr.ever,hst,?_,?_,?_,?_,hr.least⟩;intro k hk;show Ot (O9 h.state p s) k=some (match Ot (O9 O.packs p (d.1,s)) k with|some d=>d.2|none=>0);rw[K4,K4];by_cases hx:k=p;rw[if_pos hx,if_pos hx];rw[if_neg hx,if_neg hx]; exact hr.st k hk;intro k d' hd';have hd2:Ot (O9 O.packs p (d.1,s)) k=some d':=hd';rw[K4] at hd2;split at hd2
  cases hd2; show s=1∨s=2∨s=3; omega
  exact hr.d3 k d' hd2;intro k d' hd';have hd2:Ot (O9 O.packs p (d.1,s)) k=some d':=hd';rw[K4] at hd2;split at hd2;rename_i hx; cases hd2; rw[hx]; exact hpkd;exact hr.pk k d' hd2;intro w l hl;rw[hpks,if_neg hs]; exact hr.lane w l hl
theorem hr0:HRl Vm hs0:=by
 refine⟨rfl,rfl,rfl,rfl,?_,rfl,rfl,?_,rfl,rfl,by decide,rfl,?_,?_,?_,?_,?_⟩;intro w l h; cases h;intro w l h; cases h;intro k h; cases h;intro k d h; cases h;intro k d h; cases h;intro w l h; cases h;intro w l h; cases h
theorem Done.hr {lines:List Str} (hD:Done lines):HRl (after lines) (ZF lines):=by
 induction hD with
 | nil=>exact hr0
 | @snoc lines line h he ih=>
  obtain⟨h1,h2,_⟩:=Q8 he;rw[Zd,QS];exact hr_tell h.wf.1 h.fit h.clm ih (wt_of h1) h2
end Go.Am
namespace Go.Am
open Go.RowKit
def Er (h:AHeap):Prop:=∃ x,VarAt h 1 [x]∧(x = .nili∨∃ t y,x = .ifc t y)
theorem Er.ext {h h':AHeap} (z:Er h) (k:Keeps h h'):Er h':=let⟨m,hm,hx⟩:=z; ⟨m,hm.ext k,hx⟩
def WordA (w:Str):Prop:=KU w 3=true∨QW w=true∨w = []
theorem atoi_name {w:Str} (h:QW w=true):dG w=dG []:=by
 generalize hz:dG []=z;unfold QW at h;simp only[dF,fU,decide_eq_true_eq] at h;obtain⟨⟨h1,_⟩,h2⟩:=h
 cases w with
 | nil=>exact absurd rfl h1
 | cons c r=>
  have hc:=h2 c List.mem_cons_self;unfold dG;dsimp only;rw[if_neg aA];unfold dV;rw[if_neg aV,dY,if_neg aA];exact hz
theorem atoi_num {w:Str} (h:KU w 3=true):dG w = .ok (K8 w):=by
 unfold KU at h;simp only[dF,fU,decide_eq_true_eq] at h;obtain⟨⟨⟨h1,h2⟩,_⟩,h3⟩:=h
 match w,h1,h2,h3 with
 | [a],_,_,h3=>
  have ha:=h3 a aV;unfold dG dV K8;dsimp only;rw[if_neg (show¬ (a.toNat=43∨a.toNat=45) by omega),if_neg aV,dY,if_pos ha,if_neg aA,if_neg aA,dY];dsimp only;rw[if_neg aA,if_neg aA,if_neg aA];simp only[dX,fA];congr 1; omega
 | [a,b],_,_,h3=>
  have ha:=h3 a aV;have hb:=h3 b aV;unfold dG dV K8;dsimp only;rw[if_neg (show¬ (a.toNat=43∨a.toNat=45) by omega),if_neg aV,dY,if_pos ha,if_neg aA,if_neg aA,dY,if_pos hb,if_neg aA,if_neg aA,dY];dsimp only;rw[if_neg aA,if_neg aA,if_neg aA];simp only[dX,fA];congr 1; omega
 | [a,b,c],_,_,h3=>
  have ha:=h3 a aV;have hb:=h3 b aV;have hc:=h3 c aV;unfold dG dV K8;dsimp only;rw[if_neg (show¬ (a.toNat=43∨a.toNat=45) by omega),if_neg aV,dY,if_pos ha,if_neg aA,if_neg aA,dY,if_pos hb,if_neg aA,if_neg aA,dY,if_pos hc,if_neg aA,if_neg aA,dY];dsimp only;rw[if_neg aA,if_neg aA,if_neg aA];simp only[dX,fA];congr 1; omega
theorem Wa {w:Str} (h:KU w 3=true):w.length≤3:=by
 unfold KU at h;simp only[dF,decide_eq_true_eq] at h;exact h.1.1.2
theorem isName_len {w:Str} (h:QW w=true):w.length≤12:=by
 unfold QW at h;simp only[dF,decide_eq_true_eq] at h;exact h.1.2
theorem atoi_c {h:AHeap} {w:Str} (hE:Er h) (hw:WordA w):ACalls Go.Proofs.Tryz.prog 55 [.str (wd w)] h (fun q h'=>q = .tup [.int .i64 (atV w),.bot]∧h=h'):=by
 refine⟨_,_,Ev.of_below ⟨_,Go.Proofs.Tryz.func55,by decide,rfl⟩ ?_,rfl,rfl⟩;intro φ W cs rr ha;obtain⟨a,rfl⟩:∃ a,cs = [a]:=by
  match cs,ha.1 with
  | [a],_=>exact⟨a,rfl⟩
 have h2:=ha.2 0 _ _ rfl rfl;cases h2;have tupR:∀ (v:Int) (e:Value),VRel φ (.tup [.int .i64 v,.bot]) (.tuple #[.int .i64 v,e]):=by
  intro v e;refine .tup _ [.int .i64 v,e] rfl ?_;intro j x y hx hy
  match j,hx,hy with
  | 0,hx,hy=>cases hx; cases hy; exact .int _ _
  | 1,hx,hy=>cases hx; cases hy; exact .bot _
 have hd:(wd w).data.toList=w:=by simp[wd]
 cases hn:KU w 3 with
 | true=>
  refine(Go.Proofs.Tryz.strconv_Atoi_ok (wd w) (by rw[wd_size]; have:=Wa hn; omega) (K8 w) (by rw[hd]; exact atoi_num hn) W).mono ?_;rintro e W' ⟨rfl,hW⟩;refine⟨_,rfl,by rw[X0 hn]; exact tupR _ _,?_⟩;rcases hW with rfl|⟨t,rfl⟩
  exact Below.refl _ _;exact Lib.bytesWorld_below _ _ _
 | false=>
  have h0:atV w=0:=by unfold atV; rw[if_neg (by rw[hn]; decide)]
  have hs:dG (wd w).data.toList=dG []:=by
   rw[hd];rcases hw with h1|h1|h1
   rw[hn] at h1; cases h1;exact atoi_name h1;rw[h1]
  have hl:(wd w).size≤281474976710656:=by
   rw[wd_size];rcases hw with h1|h1|h1
   have:=Wa h1; omega;have:=isName_len h1; omega;rw[h1]; exact Nat.zero_le _
  obtain⟨x,hv,hx⟩:=hE;obtain⟨C,e,f,g1,g2,g3⟩:=hv.rel rr;obtain⟨ev,g4,g5⟩:=g3 0 _ rfl;have hev:ev = .nilIface∨∃ te pe,ev = .iface te pe:=by
   rcases hx with rfl|⟨t,y,rfl⟩
   cases g5; exact .inl rfl
   cases g5; exact .inr ⟨_,_,rfl⟩
  refine(Go.Proofs.Tryz.strconv_Atoi_syntax (wd w) hl hs ev W (by simp[World.cell?,g1,g4]) hev).mono ?_;rintro e W' ⟨N,rfl,_,_,bel⟩;exact⟨_,rfl,by rw[h0]; exact tupR _ _,bel⟩
end Go.Am
namespace Go.Am
open Go.ChangeShapes Go.WideShapes
structure Vse (h:AHeap):Prop where
  vs:Vs h
  er:Er h
theorem Vse.ext {h h':AHeap} (z:Vse h) (k:Keeps h h'):Vse h':=⟨z.vs.ext k,z.er.ext k⟩
def laidE:List (String × DataW Unit):=[("math/bits.deBruijn32tab",Go.Proofs.YtgnogfjajnnaoaaGreatDoor.Rows.laid_math_bits_deBruijn32tab),("math/bits.deBruijn64tab",Go.Proofs.YtgnogfjajnnaoaaGreatDoor.Rows.laid_math_bits_deBruijn64tab),("internal/strconv.uint64pow10",Go.Proofs.YtgnogfjajnnaoaaGreatDoor.Rows.laid_internal_strconv_uint64pow10),("unicode/utf8.acceptRanges",Go.Proofs.YtgnogfjajnnaoaaGreatDoor.Rows.laid_unicode_utf8_acceptRanges),("spadille/stamp.sizes",Go.Proofs.YtgnogfjajnnaoaaGreatDoor.Rows.laid_spadille_stamp_sizes),("strconv.ErrRange",Go.Proofs.YtgnogfjajnnaoaaGreatDoor.Rows.laid_strconv_ErrRange),("strconv.ErrSyntax",Go.Proofs.YtgnogfjajnnaoaaGreatDoor.Rows.laid_strconv_ErrSyntax),("unicode/utf8.first",Go.Proofs.YtgnogfjajnnaoaaGreatDoor.Rows.laid_unicode_utf8_first)]
theorem Imp.varsE {W:World} {a b c e:List AV} (ha:VF W 0 a) (he:VF W 1 e) (hb:VF W 3 b) (hc:VF W 4 c):∃ φ h,Imp W φ h∧(h.globs.contains 0=true∧Rd h (.ptr 0 0) 0 a)∧VarAt h 1 e∧VarAt h 3 b∧VarAt h 4 c:=by
 have im:=(VF.push (VF.push (VF.push (VF.push (Imp.empty W) ha 0).1 he 1).1.none hb 1).1 hc 1).1;refine⟨_,⟨_,_,[0,1,3,4]⟩,⟨⟨?_,im.rel.lt,im.rel.blk,im.rel.arr,im.rel.one,im.rel.sep,im.rel.map,im.rel.ext⟩,im.ro,im.out⟩,⟨rfl,.inr (.inl ⟨0,0,.none,0,a,.inr ⟨rfl,rfl⟩,rfl,rfl,by rw[List.drop_zero,List.take_length]⟩)⟩,⟨rfl,rfl⟩,⟨rfl,rfl⟩,rfl,rfl⟩;intro g hg;have hg:g=0∨g=1∨g=3∨g=4:=by simpa using hg
 rcases hg with rfl|rfl|rfl|rfl
 exact⟨a.length,rfl⟩;exact⟨e.length,rfl⟩;exact⟨b.length,rfl⟩;exact⟨c.length,rfl⟩
theorem vf_iface {W : World} {g t : Nat} {ms : Array (String × TypeId)} {nm : String} {cs : Array Value} {f : Nat} {p : List MemPlace} {name : String} {d : DataW Unit} (hU : Go.Proofs.Tryz.prog.underlying t = some (.interface ms)) (hg0 : Go.Proofs.Tryz.prog.globalNamed nm = some g) (hv0 : W.var? Go.Proofs.Tryz.prog nm = some cs)
    (hd0:DataW.trod (fun _=>()) Go.Proofs.Tryz.prog W 0 (fun _=>true) false f t cs.toList=some (.iface name d,p)):∃ u,VF W g [.ifc u .bot]:=by
 obtain⟨_,u,v,h1,_,_⟩:=iface_of_trod hU hd0;refine⟨u,?_,fun j x hx=>?_⟩;have hv:=hv0;simp only[World.var?,hg0,Option.bind_some] at hv;split at hv;rename_i c e f' he;cases hv;exact⟨_,_,_,he,by rw[←Array.length_toList,h1]; rfl⟩;cases hv;have hj:j=0:=by
  have:=(dU.1 hx).1;simpa using this
 subst hj;cases hx;refine⟨.iface u v,?_,fun φ=>.ifc _ _ _ (.bot _)⟩;rw[World.var?_cell hg0 hv0 0,←Array.getElem?_toList,h1]; rfl
theorem vse_laid {W:World} (h:laidMetH Go.Proofs.Tryz.prog laidE W) (hs:W.ShapedOpen Go.Proofs.Tryz.prog):∃ φ hp,Imp W φ hp∧Vse hp:=by
 rw[MakeChecks.laidMetH_plain _ _ _ aE] at h;obtain⟨ps,⟨g0,t0,cs0,f0,p0,q0,hg0,ht0,hv0,hd0,⟨g1,t1,cs1,f1,p1,q1,hg1,ht1,hv1,hd1,⟨g2,t2,cs2,f2,p2,q2,hg2,ht2,hv2,hd2,⟨g3,t3,cs3,f3,p3,q3,hg3,ht3,hv3,hd3,⟨g4,t4,cs4,f4,p4,q4,hg4,ht4,hv4,hd4,⟨g5,t5,cs5,f5,p5,q5,hg5,ht5,hv5,hd5,⟨g6,t6,cs6,f6,p6,q6,hg6,ht6,hv6,hd6,⟨g7,t7,cs7,f7,p7,q7,hg7,ht7,hv7,hd7,hrest,_⟩,_⟩,_⟩,_⟩,_⟩,_⟩,_⟩,_⟩,_⟩:=h;obtain rfl:=dL ((show Go.Proofs.Tryz.prog.globalNamed "internal/strconv.uint64pow10" = some 4 by kernel_rfl).symm.trans hg2);obtain rfl:=dL ((show(Go.Proofs.Tryz.prog.globals[4]?).map (·.type)=some 269 by kernel_rfl).symm.trans ht2);obtain rfl:=dL ((show Go.Proofs.Tryz.prog.globalNamed "spadille/stamp.sizes" = some 0 by kernel_rfl).symm.trans hg4);obtain rfl:=dL ((show(Go.Proofs.Tryz.prog.globals[0]?).map (·.type)=some 230 by kernel_rfl).symm.trans ht4);obtain rfl:=dL ((show Go.Proofs.Tryz.prog.globalNamed "strconv.ErrSyntax" = some 1 by kernel_rfl).symm.trans hg6);obtain rfl:=dL ((show(Go.Proofs.Tryz.prog.globals[1]?).map (·.type)=some 89 by kernel_rfl).symm.trans ht6);have a0:=JX Go.Proofs.Tryz.underlying230 Go.Proofs.Tryz.underlying229 aE (show _=sizeL.length by kernel_rfl) rfl sizes_lits hg4 hv4 hd4;have a4:=JX Go.Proofs.Tryz.underlying269 Go.Proofs.Tryz.underlying238 aE (show _=powL.length by kernel_rfl) rfl pow_lits hg2 hv2 hd2;obtain⟨u,a1⟩:=vf_iface Go.Proofs.Tryz.underlying89 hg6 hv6 hd6;obtain⟨m,a3⟩:=vf_int (g:=3) (t:=3) (k:=.i64) hs (of_decide_eq_true aE) aE aE aE Go.Proofs.Tryz.underlying3;have e0:Jr=sizeL.map fun v=>AV.int .i8 v:=by rw[Jr,sizeL,fI]; rfl
 rw[←e0] at a0;obtain⟨φ,hp,im,h0,h1,h3,h4⟩:=Imp.varsE a0 a1 a3 a4;exact⟨φ,hp,im,⟨h0,⟨m,h3⟩,h4⟩,_,h1,.inr ⟨_,_,rfl⟩⟩
end Go.Am
namespace Go.Am
theorem Wu {P : Program} {ρ : Operand → AV} {o : Oper} {h : AHeap} {t kt et : TypeId} {x ix : Operand} {b F : Nat} {es : List (AV × AV)} {z : AV} (ho : o.op = .mapEntry t x ix) (hm : Z0 P t = some (kt, et)) (hz : QB P et = some z)
    (hρ : ρ x = .mp b) (hg:h.get b=some (.obj F (.map es))) (hkey:Za P kt (ρ ix)=true) (hf:Q5 P kt (ρ ix) es=some none):K3 P ρ o h (.tup [z,.int .i64 (es.length:Int)]) (h.set b (.obj F (.map (es ++ [(ρ ix,z)])))):=by
 refine⟨HGrow.setT hg,?_⟩;intro φ a w K Q hfr r hops hk;have hx:=hops x aR;have hi:=hops ix aR;have hu:=Zz hm;rw[hρ] at hx;generalize hq:a.eval x=q at hx;cases hx;rename_i k i' z' hφ;obtain⟨ms,h1,h2,h3⟩:=r.blk b k i' z' _ hφ hg aX;obtain⟨cr,g1,g2,g3⟩:=ZV (P:=P) hkey hi w es ms.toList none bA (fun j y m hy hm=>(h3 j y m hy aj).2) hf;have hck:=ZD (P:=P) hkey hi false w;obtain⟨i2,zv,hzi,hzv,hzr⟩:=QC hz;have hzrun:(zeroValue et).run P w = .ok zv w:=by simp[zeroValue,typeInfo,hzi,hzv]
 have hcr:=g2 rfl;subst hcr;have hrun:(Instr.mapEntry t (a.eval x) (a.eval ix)).run P w = .ok (.tuple #[zv,.int .i64 (ms.size:Int)]) (QH w k (.map (ms.push {key:=a.eval ix,val:=zv,born:=ms.size}) (ms.size+1))):=by
  simp only[Instr.mapEntry,Sem.run_bind,run_underlying hu,dP,hq,MapKept.run_getObj_map h1,hck,g1,hzrun,MapKept.run_setObj_map _ h1];rfl
 have hop:(execOp a.eval o).run P w = .ok (.value (.tuple #[zv,.int .i64 (ms.size:Int)])) (QH w k (.map (ms.push {key:=a.eval ix,val:=zv,born:=ms.size}) (ms.size+1))):=by simp only[execOp,ho,Sem.run_bind,hrun,dP,Sem.run_pure]
 obtain⟨r',tr⟩:=r.setT hφ hg (.map (es ++ [(ρ ix,z)])) (.map (ms.push {key:=a.eval ix,val:=zv,born:=ms.size}) (ms.size+1)) (by
  intro w' hw';refine⟨ms.push {key:=a.eval ix,val:=zv,born:=ms.size},by rw[hw',Array.size_push],by simp[h2],?_⟩;intro j p m hp hm;rw[List.getElem?_append] at hp;rw[Array.getElem?_push] at hm;split at hp;rename_i hj;rw[if_neg aA] at hm;exact h3 j p m hp hm;rename_i hj;have hj0:j=ms.size:=by
   have:=(dU.1 hp).1;simp at this; omega
  rw[if_pos hj0] at hm;cases hm;rw[show j - es.length=0 by omega] at hp;cases hp;exact⟨hj0.symm,hi,hzr _⟩)
 refine Ko hop (hk φ _ _ tr r' ?_);refine .tup _ [zv,.int .i64 (ms.size:Int)] rfl ?_;intro j x y hx hy
 match j,hx,hy with
 | 0,hx,hy=>cases hx; cases hy; exact hzr _
 | 1,hx,hy=>
  cases hx; cases hy
  rw[h2];exact .int _ _
theorem WV {ms:Array MapEntry} (hb:∀ (j:Nat) m,ms[j]? = some m→m.born=j) {i:Nat} (hi:i<ms.size):ms.findIdx? (fun e=>(e.born:Int) == (i:Int))=some i:=by
 rw[Array.findIdx?_eq_some_iff_getElem];refine⟨hi,?_,?_⟩;rw[hb i ms[i] (dJ hi)]; simp;intro j hj;rw[hb j ms[j] (dJ aA)];simp; omega
theorem Uo {P : Program} {ρ : Operand → AV} {o : Oper} {h : AHeap} {t : TypeId} {x s y : Operand} {b F i : Nat} {es : List (AV × AV)} {p : AV × AV} (ho : o.op = .entryStore t x s y)
    (hρ : ρ x = .mp b) (hs : ρ s = .int .i64 (i:Int)) (hg:h.get b=some (.obj F (.map es))) (hp:es[i]? = some p):K3 P ρ o h (.tup []) (h.set b (.obj F (.map (es.set i (p.1,ρ y))))):=by
 refine⟨HGrow.setT hg,?_⟩;intro φ a w K Q hfr r hops hk;have hx:=hops x aR;have hsv:=hops s aR;have hy:=hops y aR;rw[hρ] at hx;rw[hs] at hsv;generalize hq:a.eval x=q at hx;generalize hq2:a.eval s=q2 at hsv;cases hx;cases hsv;rename_i k i' z' hφ;obtain⟨ms,h1,h2,h3⟩:=r.blk b k i' z' _ hφ hg aX;have hlt:i<ms.size:=by rw[←h2]; exact(dU.1 hp).1
 have hborn:∀ (j:Nat) m,ms[j]? = some m→m.born=j:=by
  intro j m hm;have hj:j<es.length:=by rw[h2]; exact(Array.getElem?_eq_some_iff.1 hm).1
  exact(h3 j es[j] m (dT hj) hm).1
 have hidx:=WV hborn hlt;have hrun:(Instr.entryStore t (a.eval x) (a.eval s) (a.eval y)).run P w = .ok () (QH w k (.map (ms.modify i fun e=>{e with val:=a.eval y}) ms.size)):=by
  simp only[Instr.entryStore,Sem.run_bind,dP,hq,hq2,MapKept.run_getObj_map h1,asInt,asIntOf,Sem.run_pure,hidx,MapKept.run_setObj_map _ h1];rfl
 have hop:(execOp a.eval o).run P w = .ok .skip (QH w k (.map (ms.modify i fun e=>{e with val:=a.eval y}) ms.size)):=by simp only[execOp,ho,Sem.run_bind,hrun,dP,Sem.run_pure]
 obtain⟨r',tr⟩:=r.setT hφ hg (.map (es.set i (p.1,ρ y))) (.map (ms.modify i fun e=>{e with val:=a.eval y}) ms.size) (by
  intro w' hw';refine⟨ms.modify i fun e=>{e with val:=a.eval y},by rw[hw',Array.size_modify],by simp[h2],?_⟩;intro j p' m' hp' hm;rw[List.getElem?_set] at hp';rw[Array.getElem?_modify] at hm;by_cases hij:i=j;subst hij;rw[if_pos rfl] at hp' hm;rw[dJ hlt] at hm;cases hm;split at hp';cases hp';obtain⟨q1,q2,_⟩:=h3 i p ms[i] hp (dJ hlt);exact⟨q1,q2,hy⟩;cases hp';rw[if_neg hij] at hp' hm;exact h3 j p' m' hp' hm)
 exact Xw hop (hk φ _ _ tr r' (VRel.undef φ))
section
variable {κ ν:Type}
variable {P:Program} {n:Nat} {ops:Array Oper} {ex:List Nat} {Q:KF→AHeap→Prop} {k:Nat} {os:List Oper} {K:KF} {h h0:AHeap} {d:Nat} {ty:TypeId} {pos:String} {after:Array Edge} {objs:List Obj}
theorem KOps.mapEntryN [DecidableEq κ] {t kt : TypeId} {z : AV} {kf : κ → AV} {vf : ν → AV} {l : List (κ × ν)} {v : AV} {x ix : Operand} {a : κ} {b : ν} {i : Nat} [hx : EvK h.globs n K x v] (hi : KL h.globs n K ix = kf a) [ht : MpT P t kt z] [hkt : KeyT P kt kf] (hz : z = vf b)
    (st:St h0 h objs) (hv:Q7 v) (hk':objs[i]? = some (mapO v (entL kf vf l))) (hno:Ot l a=none) (hex:ex.contains k=false)
    (hk:∀ h',St h0 h' (objs.set i (mapO v (entL kf vf (l ++ [(a,b)]))))→KOps P n ops ex Q (k+1) os ((d,.tup [z,.int .i64 (l.length:Int)])::K) h'):KOps P n ops ex Q k (⟨some d,.mapEntry t x ix,ty,pos,after,none⟩::os) K h:=by
 obtain⟨bb,G,rfl,hg⟩:=St.rdM st i hk' hv;obtain⟨et,h1,h2⟩:=ht.mp;obtain⟨r,h3,h5,-⟩:=XH (P:=P) (kt:=kt) (kf:=kf) (vf:=vf) l a;have hr:r=none:=by
  rw[hno] at h5
  cases r with
  | none=>rfl
  | some q=>cases h5
 subst hr;have e:entL kf vf l ++ [(kf a,z)]=entL kf vf (l ++ [(a,b)]):=by rw[hz]; simp[entL]
 have hl:(entL kf vf l).length=l.length:=dW _;have hs:=Wu (P:=P) (ρ:=KL h.globs n K) (o:=⟨some d,.mapEntry t x ix,ty,pos,after,none⟩) (h:=h) (es:=entL kf vf l) rfl h1 h2 (by rw[hx.eq]) hg (by rw[hi]; exact hkt.ok a) (by rw[hi]; exact h3);rw[hi,hl] at hs;rw[e] at hs;refine ZS (v:=.tup [z,.int .i64 (l.length:Int)]) rfl hex hs (hk _ ?_);refine St.setT (x:=.map (entL kf vf l)) (x':=.map (entL kf vf (l ++ [(a,b)]))) st hk' (fun _=>rfl) rfl hg ?_;intro F hm;obtain⟨b',G',f,hF,hlo,hb',hg',hf⟩:=hm.map hv;cases hb';rw[hg] at hg'; cases hg';exact⟨hF,hlo,f,hf⟩
theorem KOps.entryStoreN {t : TypeId} {kf : κ → AV} {vf : ν → AV} {l : List (κ × ν)} {v u : AV} {x s y : Operand} {a : κ} {b0 b : ν} {i : Nat} [hx : EvK h.globs n K x v] [hsv : EvK h.globs n K s (.int .i64 (l.length : Int))] [hy : EvK h.globs n K y u] (hu : u = vf b)
    (st:St h0 h objs) (hv:Q7 v) (hk':objs[i]? = some (mapO v (entL kf vf (l ++ [(a,b0)])))) (hex:ex.contains k=false)
    (hk:∀ h',St h0 h' (objs.set i (mapO v (entL kf vf (l ++ [(a,b)]))))→KOps P n ops ex Q (k+1) os K h'):KOps P n ops ex Q k (⟨none,.entryStore t x s y,ty,pos,after,none⟩::os) K h:=by
 obtain⟨bb,G,rfl,hg⟩:=St.rdM st i hk' hv;have hp:(entL kf vf (l ++ [(a,b0)]))[l.length]? = some (kf a,vf b0):=by
  show((l ++ [(a,b0)]).map _)[l.length]? = _;rw[fO,List.getElem?_append_right (Nat.le_refl _)];simp
 have e:(entL kf vf (l ++ [(a,b0)])).set l.length (kf a,vf b)=entL kf vf (l ++ [(a,b)]):=by
  have hl:l.length=(List.map (fun p : κ × ν=>(kf p.1,vf p.2)) l).length:=by rw[dW]
  simp only[entL,dQ,List.map_cons,List.map_nil];rw[hl,List.set_append_right _ _ (Nat.le_refl _)];simp
 have hs:=Uo (P:=P) (ρ:=KL h.globs n K) (o:=⟨none,.entryStore t x s y,ty,pos,after,none⟩) (h:=h) (es:=entL kf vf (l ++ [(a,b0)])) (i:=l.length) rfl (by rw[hx.eq]) (by rw[hsv.eq]) hg hp;rw[hy.eq,hu] at hs;dsimp only at hs;rw[e] at hs;refine QP (v:=.tup []) rfl hex hs (hk _ ?_);refine St.setT (x:=.map (entL kf vf (l ++ [(a,b0)]))) (x':=.map (entL kf vf (l ++ [(a,b)]))) st hk' (fun _=>rfl) rfl hg ?_;intro F hm;obtain⟨b',G',f,hF,hlo,hb',hg',hf⟩:=hm.map hv;cases hb';rw[hg] at hg'; cases hg';exact⟨hF,hlo,f,hf⟩
end
end Go.Am
