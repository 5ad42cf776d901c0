/-
  Layer 14: there is always a flow: all lines that can be done keep one (plain).
  Conditions: none.
-/
import Derived.Test.YtgnogfjajnnaoaaGreatDoorOp
import Derived.Shelf.Strconv.AtoiAll
import Derived.Test.YtgnogfjajnnaoaaGreatDoorProg
import Derived.Test.YtgnogfjajnnaoaaGreatDoorCn
import Derived.Test.YtgnogfjajnnaoaaGreatDoorSPb
import Derived.Test.YtgnogfjajnnaoaaGreatDoorOa
import Derived.Shelf.Strings.Builder2
import Derived.Test.YtgnogfjajnnaoaaGreatDoorOi
import Derived.Lib.Join
open Bool renaming and_eq_true → dI, false_eq_true → fN
open Go.Lib renaming IsBuilderF → dD, byteCells_length → dJ, byteCells_append → dK, byteCells → dL, itoa → dM, strCells_length → fU, BuilderAt → fK, IsBuilder → fL, itoa_length_le → fP, cell_of_heap → fR
open Int renaming toNat_natCast → dW, le_trans → fM
open List renaming getD_eq_getElem?_getD → dA, length_singleton → dE, length_append → dO, length_map → dU, getD_cons_zero → dB, getD_cons_succ → dC, map_append → dG, mem_append → dH, map_map → dN, mem_singleton → dP, map_cons → dQ, mem_map → dR, getElem?_map → dV, map_congr_left → dX, getElem?_eq_some_iff → dZ, getElem?_eq_getElem → fA, all_eq_true → fI, length_nil → fO, getElem?_concat_length → fY, filter_congr → fB, length_filter_le → fF, mem_of_getElem? → fG, mem_cons_of_mem → fJ, mem_cons_self → fQ, length_set → fS, range → fT, foldl_cons → fV
open Nat renaming mod_lt → dY, le_refl → dF, zero_le → dT, le_trans → fD, pow_le_pow_right → fH
open Option renaming map_eq_some_iff → dS, isNone_iff_eq_none → fC
open Or renaming inr → fE
namespace Go.Am
theorem Off.ws_len (O:Off):O.ws.length=O.ways.length:=by rw[Off.ws,dU]
theorem Off.ws_get {O:Off} {i:Nat} (h:i<O.ways.length):O.ws.getD i default=⟨(O.ways.getD i default).2.fr,(O.ways.getD i default).2.to,(O.ways.getD i default).2.lo,(O.ways.getD i default).2.hi⟩:=by
 rw[Off.ws,dA,dV,dA,fA h]; rfl
theorem RW {ws ws':List W} {n:List Int} {x:Int}:∀ k:Nat,(∀ i,i<k→(ws'.getD i default).f=(ws.getD i default).f∧(ws'.getD i default).t=(ws.getD i default).t)→KI ws' n x k=KI ws n x k:=by
 intro k
 induction k with
 | zero=>intro _; rfl
 | succ k ih=>
  intro h;rw[KI,KI,ih (fun i hi=>h i aA),(h k aA).1,(h k aA).2]
theorem Flow.move {ws ws':List W} {n:List Int} (hF:Flow ws n) (hl:ws'.length=ws.length) (hft:∀ i,i<ws.length→(ws'.getD i default).f=(ws.getD i default).f∧(ws'.getD i default).t=(ws.getD i default).t) (hb:∀ i,i<ws.length→(ws'.getD i default).l≤n.getD i 0∧n.getD i 0≤(ws'.getD i default).m):Flow ws' n:=by
 refine⟨⟨hF.len.trans hl.symm,fun i hi=>(hb i aA).1,fun i hi=>(hb i aA).2⟩,fun x=>?_⟩;unfold kept;rw[hl,RW _ hft]; exact hF.kp x
def Fit (O:Off):Prop:=∃ n,Flow O.ws n
theorem RH {r:Int} {ws:List W}:∀ k:Nat,(∀ i,i<k→Kw r (ws.getD i default)=0)→QG r ws k=0:=by
 intro k
 induction k with
 | zero=>intro _; rfl
 | succ k ih=>
  intro h;rw[QG,if_pos (ih (fun i hi=>h i aA))]; exact h k aA
theorem BOk.chk {r:Int} {ws:List W} (h:BOk r ws):Ky r ws=0:=by
 unfold Ky;rw[if_neg (by have:=h.r2; have:=h.r6; omega),if_neg (by have:=h.len; omega)];refine RH _ fun i hi=>?_
 have w:=h.way i hi;unfold Kw;rw[if_neg (fun q=>q ⟨w.f0,w.f1,w.t0,w.t1⟩),if_neg w.ne,if_neg (fun q=>q ⟨w.l0,w.lm,w.m1⟩)]
theorem UW {O:Off} (hW:WF O) (h : 0<O.ways.length):BOk O.rm O.ws:=by
 have key:∀ i,i<O.ways.length→WOk O.rm (O.ws.getD i default):=by
  intro i hi;obtain⟨h1,h2,h3⟩:=hW.rk _ (getD_mem (d:=default) hi);obtain⟨h4,h5,h6⟩:=hW.rg _ (getD_mem (d:=default) hi);rw[Off.ws_get hi];unfold Off.rm;exact⟨by dsimp only; omega,by dsimp only; omega,by dsimp only; omega,by dsimp only; omega,by dsimp only; omega,h4,h5,h6⟩
 have h0:=hW.rk _ (getD_mem (d:=default) h);have hr:=hW.rooms;refine⟨?_,?_,by rw[O.ws_len]; exact hW.ways,fun i hi=>key i (by rwa [O.ws_len] at hi)⟩;unfold Off.rm; omega;unfold Off.rm; omega
theorem fit_can {O:Off} (hW:WF O) (hF:Fit O) (h : 0<O.ways.length):XA O.rm O.ws=true:=by
 have hB:=UW hW h;have h2:=hB.r2;have e:O.rm=((O.rm.toNat:Nat):Int):=by omega
 unfold XA;rw[decide_eq_true hB.chk,Bool.true_and];rw[e] at hB;exact(JD hB.inR hB.LM).2 hF
theorem JB {O:Off} (hW:WF O) (hF:Fit O) {i:Nat} (hi:i<O.ways.length):Q8 O.rm O.ws i=0:=by
 have hB:=UW hW aA;unfold Q8 Qq;rw[if_pos hB.chk,if_pos (by rw[O.ws_len]; omega),if_pos hB.chk,if_pos (fit_can hW hF aA)]
theorem can_fit {rm:Int} {ws:List W} (h:XA rm ws=true):∃ n,Flow ws n:=by
 have hc:Ky rm ws=0:=by
  unfold XA at h;rw[dI,decide_eq_true_eq] at h;exact h.1
 exact(Xy (rm:=rm) (by unfold Qq; rw[if_pos hc,if_pos h])).2
theorem WD {O:Off} {w:Str} {f:Lane→Lane} {l:Lane} (h:O.tries w f l=0):Fit (O.mod w f):=by
 unfold Off.tries at h;split at h;cases h;split at h;rename_i hc; exact can_fit hc;cases h
theorem mod_ws {O:Off} (nd:(O.ways.map (·.1)).Nodup) {i:Nat} {w:Str} {l:Lane} (h:O.ways[i]? = some (w,l)) (f:Lane→Lane) {j:Nat} (hj:j<O.ways.length):(O.mod w f).ws.getD j default=if j=i then ⟨(f l).fr,(f l).to,(f l).lo,(f l).hi⟩ else O.ws.getD j default:=by
 have hl:i<O.ways.length:=(dZ.1 h).1;have hm:=Ru nd h f;rw[Off.ws_get (by rw[hm,fS]; exact hj),hm,getD_set' hl];by_cases hji:j=i;rw[if_pos hji,if_pos hji];rw[if_neg hji,if_neg hji,Off.ws_get hj]
theorem U5 {O:Off} (nd:(O.ways.map (·.1)).Nodup) {i:Nat} {w:Str} {l:Lane} (h:O.ways[i]? = some (w,l)) {f:Lane→Lane} (h1:(f l).fr=l.fr) (h2:(f l).to=l.to) {n:List Int} (hF:Flow O.ws n) (h3:(f l).lo≤n.getD i 0) (h4:n.getD i 0≤(f l).hi):Flow (O.mod w f).ws n:=by
 have hl:i<O.ways.length:=(dZ.1 h).1;have hg:O.ways.getD i default=(w,l):=by rw[dA,h]; rfl
 have hlen:(O.mod w f).ws.length=O.ws.length:=by rw[Off.ws_len,Off.ws_len,Ru nd h f,fS]
 refine hF.move hlen (fun j hj=>?_) (fun j hj=>?_);rw[O.ws_len] at hj;rw[mod_ws nd h f hj];by_cases hji:j=i;subst hji; rw[if_pos rfl,Off.ws_get hj,hg,h1,h2]; exact⟨rfl,rfl⟩;rw[if_neg hji]; exact⟨rfl,rfl⟩;have hj':=hj;rw[O.ws_len] at hj;rw[mod_ws nd h f hj];by_cases hji:j=i;subst hji; rw[if_pos rfl]; exact⟨h3,h4⟩;rw[if_neg hji]; exact⟨hF.lo j hj',hF.hi j hj'⟩
theorem Vv {O:Off} {n:List Int} (hF:Flow O.ws n) {i:Nat} {w:Str} {l:Lane} (h:O.ways[i]? = some (w,l)):l.lo≤n.getD i 0∧n.getD i 0≤l.hi:=by
 have hl:i<O.ways.length:=(dZ.1 h).1;have hg:O.ways.getD i default=(w,l):=by rw[dA,h]; rfl
 have h1:=hF.lo i (by rw[O.ws_len]; exact hl);have h2:=hF.hi i (by rw[O.ws_len]; exact hl);rw[Off.ws_get hl,hg] at h1 h2;exact⟨h1,h2⟩
theorem flow_way {ws:List W} {w:W} {n:List Int} (hF:Flow ws n) (h0:w.l≤0) (h1 : 0≤w.m):Flow (ws ++ [w]) (n ++ [0]):=by
 have hl:=hF.len;have g:∀ i,i<ws.length→(ws ++ [w]).getD i default=ws.getD i default:=fun i hi=>XD _ hi
 have g1:∀ i,i<ws.length→(n ++ [0]).getD i 0=n.getD i 0:=fun i hi=>XD _ aA
 have g2:(n ++ [(0:Int)]).getD ws.length 0=0:=by rw[←hl,dA,fY]; rfl
 have g3:(ws ++ [w]).getD ws.length default=w:=by rw[dA,fY]; rfl
 have key:∀ x k,k≤ws.length→KI (ws ++ [w]) (n ++ [0]) x k=KI ws n x k:=by
  intro x k
  induction k with
  | zero=>intro _; rfl
  | succ k ih=>intro hk; rw[KI,KI,ih aA,g k aA,g1 k aA]
 refine⟨⟨by simp[hl],fun i hi=>?_,fun i hi=>?_⟩,fun x=>?_⟩;rw[dO,dE] at hi;by_cases h:i<ws.length;rw[g i h,g1 i h]; exact hF.lo i h;obtain rfl:i=ws.length:=by omega
 rw[g3,g2]; exact h0;rw[dO,dE] at hi;by_cases h:i<ws.length;rw[g i h,g1 i h]; exact hF.hi i h;obtain rfl:i=ws.length:=by omega
 rw[g3,g2]; exact h1;unfold kept;rw[dO,dE,KI,key x _ (dF _),g2,Int.zero_mul,Int.add_zero];exact hF.kp x
theorem Jw {O:Off} {w:Str} {l:Lane} (h:Oo O.ways w=some l):∃ i,i<O.ways.length∧O.ways[i]? = some (w,l):=by
 obtain⟨i,h1,h2,_⟩:=X4 h;exact⟨i,h1,h2⟩
theorem fit_tell {O:Off} (hW:WF O) (hF:Fit O) {t:Tell} (h0:O.wrong t=0):Fit (O.tell t):=by
 obtain⟨n,hn⟩:=hF
 cases t with
 | room r=>exact⟨n,hn⟩
 | way w f t=>
  refine⟨n ++ [0],?_⟩;have:=flow_way (w:=⟨(OW O.rooms f:Nat),(OW O.rooms t:Nat),0,99⟩) hn (Int.le_refl _) (show(0:Int)≤99 by decide);show Flow (Off.ws {O with ways:=O.ways ++ [_]}) _;unfold Off.ws;rw[dG]; exact this
 | bound w m g=>
  obtain⟨l,_,_,h3⟩:=ZT h0;exact WD h3
 | pack p w=>
  obtain⟨_,l,_,_,_,h3⟩:=Yz h0;exact WD h3
 | move p s=>
  obtain⟨d,hm⟩:=Xm h0;obtain⟨l,hl⟩:=hW.homeM hm;show Fit (match Oo O.packs p with|none=>O|some d=>if s=0 then _ else _);rw[hm];dsimp only;by_cases hs:s=0;rw[if_pos hs];obtain⟨i,h1,h2⟩:=Jw hl;obtain⟨h3,h4⟩:=Vv hn h2;have key:Flow (O.mod d.1 fun l=>{l with packs:=l.packs.filter fun q=>!decide (q=p)}).ws n:=U5 (f:=fun l=>{l with packs:=l.packs.filter fun q=>!decide (q=p)}) hW.nd h2 rfl rfl hn (fM ?_ h3) h4;exact⟨n,key⟩;have hle:=fF (fun q=>!decide (q=p)) l.packs;unfold Lane.lo;dsimp only;split;exact Int.le_refl _;split <;> omega;rw[if_neg hs]; exact⟨n,hn⟩
 | claim w m=>
  obtain⟨l,hm,hp⟩:=Xv h0;obtain⟨i,h1,h2⟩:=Jw hm;have hpl:l.pl=i:=by
   have:=hW.pl i h1;rwa [show O.ways.getD i default=(w,l) by rw[dA,h2]; rfl] at this
  have ha:=JB hW ⟨n,hn⟩ h1;rw[Zh hm hp,hpl] at h0;have hlo:O.spLo i=X3 O.ws i:=if_pos ha;obtain⟨⟨k,hk,hki⟩,hlow⟩:=YD ⟨n,hn⟩ (show i<O.ws.length by rw[O.ws_len]; exact h1);have hhi:O.spHi i=Ym O.ws i:=if_pos ha;obtain⟨_,hhigh⟩:=Vu ⟨n,hn⟩ (show i<O.ws.length by rw[O.ws_len]; exact h1);have hle:=hhigh k hk;rw[hki] at hle;split at h0;cases h0;split at h0;cases h0;have e:k.getD i 0=m:=by omega
  have key:Flow (O.mod w fun l=>{l with paid:=true,told:=some m}).ws k:=U5 (f:=fun l=>{l with paid:=true,told:=some m}) hW.nd h2 rfl rfl hk (by show m≤_; omega) (by show _≤m; omega);exact⟨k,key⟩
 | free w=>
  obtain⟨l,hm,hp⟩:=XS h0;obtain⟨i,h1,h2⟩:=Jw hm;obtain⟨h3,h4⟩:=Vv hn h2;obtain⟨_,_,h5⟩:=hW.rgM hm;have key:Flow (O.mod w fun l=>{l with told:=none,top:=none}).ws n:=U5 (f:=fun l=>{l with told:=none,top:=none}) hW.nd h2 rfl rfl hn (fM ?_ h3) (fM h4 ?_);exact⟨n,key⟩;unfold Lane.lo;dsimp only;rw[hp];simp only[fN,if_false];split <;> omega;unfold Lane.hi at h5⊢;rw[hp] at h5⊢;simpa using h5
theorem Done.fit {lines:List Str} (hD:Done lines):Fit (after lines):=by
 induction hD with
 | nil=>exact⟨[],⟨rfl,fun i h=>(by cases h),fun i h=>(by cases h)⟩,fun x=>rfl⟩
 | @snoc lines line h he ih=>
  rw[Q7];exact fit_tell h.wf.1 ih (QS he).2.1
end Go.Am
namespace Go.Am
inductive WT (W:List Str) (t:Tell):Prop where
  | room (a:Str) (h:W = [OV,a]) (e:t = .room a) (ha:Zz a=true)
  | way (a b c:Str) (h:W = [O4,a,b,c]) (e:t = .way a b c) (ha:Zz a=true) (hb:Zz b=true) (hc:Zz c=true)
  | least (a m:Str) (h:W = [OJ,a,m]) (e:t = .bound a (Qf m) false) (ha:Zz a=true) (hm:K3 m 3=true)
  | most (a m:Str) (h:W = [OO,a,m]) (e:t = .bound a (Qf m) true) (ha:Zz a=true) (hm:K3 m 3=true)
  | free (a:Str) (h:W = [O6,a]) (e:t = .free a) (ha:Zz a=true)
  | claim (a m:Str) (h:W = [OI,a,m]) (e:t = .claim a (Qf m)) (ha:Zz a=true) (hm:K3 m 3=true)
  | pack (m a:Str) (h:W = [OP,m,a]) (e:t = .pack (Qf m) a) (hm:K3 m 3=true) (ha:Zz a=true)
  | move (k m:Str) (s:Int) (hk:(k=OT∧s=2)∨(k=OS∧s=3)∨(k=OQ∧s=1)∨(k=OR∧s=0)) (h:W = [k,m]) (e:t = .move (Qf m) s) (hm:K3 m 3=true)
theorem Zu {w:Str} (h:Kg 119 w=0):Zz w=true:=by
 rw[Kg,if_pos rfl] at h;split at h;assumption;cases h
theorem Z4 {c:UInt8} {w:Str} (h:Kg c w=0) (hc:c≠119):K3 w 3=true:=by
 rw[Kg,if_neg hc] at h;split at h;assumption;cases h
theorem wt_of {line:Str} (h:Ku line=0):WT (OG 32 line) (Kv line):=by
 obtain⟨h1,h2,h3⟩:=readE_zero h;have e2:Kv line=Qn (OG 32 line) (YS (OM ((OG 32 line).getD 0 [])) ((OG 32 line).drop 1) 0):=rfl;rw[e2];clear e2 h;generalize OG 32 line=W at *;rcases form_kind _ h1 with q|q|q|q|q|q|q|q|q|q|q <;> rw[q] at h2 h3
 obtain⟨k,a,rfl⟩:=X7 (show W.length=2 from h2);obtain rfl:k=OV:=q;exact .room a rfl rfl (Zu (KV (show KO [119] [a]=0 from h3)).1);obtain⟨k,a,rfl⟩:=X7 (show W.length=2 from h2);obtain rfl:k=O6:=q;exact .free a rfl rfl (Zu (KV (show KO [119] [a]=0 from h3)).1);obtain⟨k,a,b,c,rfl⟩:=four_words (show W.length=4 from h2);obtain rfl:k=O4:=q;have g1:=KV (show KO [119,119,119] [a,b,c]=0 from h3);have g2:=KV g1.2;have g3:=KV g2.2;exact .way a b c rfl rfl (Zu g1.1) (Zu g2.1) (Zu g3.1);obtain⟨k,a,b,rfl⟩:=Yi (show W.length=3 from h2);obtain rfl:k=OJ:=q;have g1:=KV (show KO [119,110] [a,b]=0 from h3);exact .least a b rfl rfl (Zu g1.1) (Z4 (KV g1.2).1 aD);obtain⟨k,a,b,rfl⟩:=Yi (show W.length=3 from h2);obtain rfl:k=OO:=q;have g1:=KV (show KO [119,110] [a,b]=0 from h3);exact .most a b rfl rfl (Zu g1.1) (Z4 (KV g1.2).1 aD);obtain⟨k,a,b,rfl⟩:=Yi (show W.length=3 from h2);obtain rfl:k=OI:=q;have g1:=KV (show KO [119,110] [a,b]=0 from h3);exact .claim a b rfl rfl (Zu g1.1) (Z4 (KV g1.2).1 aD);obtain⟨k,a,b,rfl⟩:=Yi (show W.length=3 from h2);obtain rfl:k=OP:=q;have g1:=KV (show KO [112,119] [a,b]=0 from h3);exact .pack a b rfl rfl (Z4 g1.1 aD) (Zu (KV g1.2).1);obtain⟨k,a,rfl⟩:=X7 (show W.length=2 from h2);obtain rfl:k=OT:=q;exact .move OT a 2 (.inl ⟨rfl,rfl⟩) rfl rfl (Z4 (KV (show KO [112] [a]=0 from h3)).1 aD);obtain⟨k,a,rfl⟩:=X7 (show W.length=2 from h2);obtain rfl:k=OS:=q;exact .move OS a 3 (.inr (.inl ⟨rfl,rfl⟩)) rfl rfl (Z4 (KV (show KO [112] [a]=0 from h3)).1 aD);obtain⟨k,a,rfl⟩:=X7 (show W.length=2 from h2);obtain rfl:k=OQ:=q;exact .move OQ a 1 (.inr (.inr (.inl ⟨rfl,rfl⟩))) rfl rfl (Z4 (KV (show KO [112] [a]=0 from h3)).1 aD);obtain⟨k,a,rfl⟩:=X7 (show W.length=2 from h2);obtain rfl:k=OR:=q;exact .move OR a 0 (.inr (.inr (.inr ⟨rfl,rfl⟩))) rfl rfl (Z4 (KV (show KO [112] [a]=0 from h3)).1 aD)
def atV (w:Str):Int:=if K3 w 3 then Qf w else 0
structure Hs where
  rooms:List Str
  ways:List Str
  ends:List (Str × (Int × Int))
  told:List (Str × (Int × Int))
  paid:List (Str × Int)
  claims:List Str
  packs:List (Int × Str)
  state:List (Int × Int)
  order:List Int
def hs0:Hs:=⟨[],[],[],[],[],[],[],[],[]⟩
def Hs.tolds (h:Hs) (w:Str):Int × Int:=(Oo h.told w).getD (0,0)
def QM (h:Hs) (W:List Str):Hs:=
  let g:=fun i=>W.getD i []
  if g 0=OV then {h with rooms:=h.rooms ++ [g 1]}
  else if g 0=O4 then {h with ways:=h.ways ++ [g 1],ends:=Ka h.ends (g 1) (ixE h.rooms (g 2),ixE h.rooms (g 3)),told:=Ka h.told (g 1) (0,99)}
  else if g 0=OJ then {h with told:=Ka h.told (g 1) (atV (g 2),(h.tolds (g 1)).2)}
  else if g 0=OO then {h with told:=Ka h.told (g 1) ((h.tolds (g 1)).1,atV (g 2))}
  else if g 0=O6 then {h with told:=Ka h.told (g 1) (0,99)}
  else if g 0=OI then {h with paid:=Ka h.paid (g 1) (atV (g 2)),claims:=h.claims ++ [g 1]}
  else if g 0=OP then {h with packs:=Ka h.packs (atV (g 1)) (g 2),state:=Ka h.state (atV (g 1)) 1,order:=h.order ++ [atV (g 1)]}
  else if g 0=OT then {h with state:=Ka h.state (atV (g 1)) 2}
  else if g 0=OS then {h with state:=Ka h.state (atV (g 1)) 3}
  else if g 0=OQ then {h with state:=Ka h.state (atV (g 1)) 1}
  else if g 0=OR then {h with state:=Ka h.state (atV (g 1)) 0}
  else h
def Jh (lines:List Str):Hs:=lines.foldl (fun h x=>QM h (OG 32 x)) hs0
theorem hsOf_snoc (lines:List Str) (x:Str):Jh (lines ++ [x])=QM (Jh lines) (OG 32 x):=by simp[Jh]
def Hs.stt (h:Hs) (k:Int):Int:=(Oo h.state k).getD 0
def Hs.pks (h:Hs) (w:Str):List Int:=h.order.filter fun k=>decide ((Oo h.packs k).getD []=w) && decide (0<h.stt k)
structure HRl (O:Off) (h:Hs):Prop where
  rooms:h.rooms=O.rooms
  ways:h.ways=O.ways.map (·.1)
  ends:h.ends=O.ways.map fun p=>(p.1,((p.2.fr:Int),(p.2.to:Int)))
  told:h.told.map (·.1)=O.ways.map (·.1)
  toldU:∀ w l,Oo O.ways w=some l→l.paid=false→Oo h.told w=some (l.told.getD 0,l.top.getD 99)
  claims:h.claims=O.claims
  paidK:h.paid.map (·.1)=O.claims
  paid:∀ w l,Oo O.ways w=some l→Oo h.paid w=if l.paid then some (l.told.getD 0) else none
  packs:h.packs.map (·.1)=O.ever
  order:h.order=O.ever
  ever:O.ever.Nodup
  state:h.state.map (·.1)=O.ever
  st:∀ k,k∈O.ever→Oo h.state k=some (match Oo O.packs k with|some d=>d.2|none=>0)
  d3:∀ k d,Oo O.packs k=some d→d.2=1∨d.2=2∨d.2=3
  pk:∀ k d,Oo O.packs k=some d→Oo h.packs k=some d.1
  lane:∀ w l,Oo O.ways w=some l→l.packs=h.pks w
  least:∀ w l,Oo O.ways w=some l→(l.packs.length:Int)≤l.lo
theorem hs_room (h:Hs) (a:Str):QM h [OV,a] = {h with rooms:=h.rooms ++ [a]}:=by
 unfold QM; simp only[dB,dC]; rw[if_pos trivial]
theorem hs_way (h:Hs) (a b c:Str):QM h [O4,a,b,c] = {h with ways:=h.ways ++ [a],ends:=Ka h.ends a (ixE h.rooms b,ixE h.rooms c),told:=Ka h.told a (0,99)}:=by
 unfold QM; simp only[dB,dC]; rw[if_neg aD,if_pos trivial]
theorem hs_least (h:Hs) (a m:Str):QM h [OJ,a,m] = {h with told:=Ka h.told a (atV m,(h.tolds a).2)}:=by
 unfold QM; simp only[dB,dC]; rw[if_neg aD,if_neg aD,if_pos trivial]
theorem hs_most (h:Hs) (a m:Str):QM h [OO,a,m] = {h with told:=Ka h.told a ((h.tolds a).1,atV m)}:=by
 unfold QM; simp only[dB,dC]; rw[if_neg aD,if_neg aD,if_neg aD,if_pos trivial]
theorem hs_free (h:Hs) (a:Str):QM h [O6,a] = {h with told:=Ka h.told a (0,99)}:=by
 unfold QM; simp only[dB,dC]; rw[if_neg aD,if_neg aD,if_neg aD,if_neg aD,if_pos trivial]
theorem hs_claim (h:Hs) (a m:Str):QM h [OI,a,m] = {h with paid:=Ka h.paid a (atV m),claims:=h.claims ++ [a]}:=by
 unfold QM; simp only[dB,dC]; rw[if_neg aD,if_neg aD,if_neg aD,if_neg aD,if_neg aD,if_pos trivial]
theorem hs_pack (h:Hs) (m a:Str):QM h [OP,m,a] = {h with packs:=Ka h.packs (atV m) a,state:=Ka h.state (atV m) 1,order:=h.order ++ [atV m]}:=by
 unfold QM; simp only[dB,dC]; rw[if_neg aD,if_neg aD,if_neg aD,if_neg aD,if_neg aD,if_neg aD,if_pos trivial]
theorem hs_move (h:Hs) (k m:Str) (s:Int) (hk:(k=OT∧s=2)∨(k=OS∧s=3)∨(k=OQ∧s=1)∨(k=OR∧s=0)):QM h [k,m] = {h with state:=Ka h.state (atV m) s}:=by
 unfold QM; simp only[dB,dC];rcases hk with ⟨rfl,rfl⟩|⟨rfl,rfl⟩|⟨rfl,rfl⟩|⟨rfl,rfl⟩
 rw[if_neg aD,if_neg aD,if_neg aD,if_neg aD,if_neg aD,if_neg aD,if_neg aD,if_pos rfl];rw[if_neg aD,if_neg aD,if_neg aD,if_neg aD,if_neg aD,if_neg aD,if_neg aD,if_neg aD,if_pos rfl];rw[if_neg aD,if_neg aD,if_neg aD,if_neg aD,if_neg aD,if_neg aD,if_neg aD,if_neg aD,if_neg aD,if_pos rfl];rw[if_neg aD,if_neg aD,if_neg aD,if_neg aD,if_neg aD,if_neg aD,if_neg aD,if_neg aD,if_neg aD,if_neg aD,if_pos rfl]
theorem Vq {m:Str} (h:K3 m 3=true):atV m=Qf m:=by unfold atV; rw[if_pos h]
theorem VN {l:Lane} (hp:l.paid=false):(l.packs.length:Int)≤l.lo:=by
 unfold Lane.lo;rw[if_neg bK];split <;> omega
theorem J9 {κ ν:Type} [DecidableEq κ] {l:List (κ × ν)} {k : κ} {v : ν} (h:Oo l k=some v):k∈l.map (·.1):=(Vo l k).1 (by rw[h]; rfl)
theorem VO {β:Type} {ws:List (Str × Lane)} {w:Str} {f:Lane→Lane} {g:Str × Lane→β} (h:∀ l,g (w,f l)=g (w,l)):(K4 ws w f).map g=ws.map g:=by
 unfold K4;rw[dN];refine dX fun p _=>?_
 show g (if p.1=w then (p.1,f p.2) else p)=g p;split;rename_i e; rw[e,h,←e];rfl
theorem RS {α:Type} (l:List α) (x : α) (p : α→Bool):(l ++ [x]).filter p=l.filter p ++ if p x then [x] else []:=by
 rw[List.filter_append]
 cases hx:p x <;> simp[hx]
theorem hr_mod {O : Off} {h h' : Hs} (hr : HRl O h) {a : Str} {l : Lane} (hm : Oo O.ways a = some l) {f : Lane → Lane} (h1 : ∀ l, (f l).fr = l.fr ∧ (f l).to = l.to ∧ (f l).packs = l.packs)
    (hp:(f l).paid=false) (hl:l.paid=false) (he:h' = {h with told:=Ka h.told a ((f l).told.getD 0,(f l).top.getD 99)}):HRl (O.mod a f) h':=by
 subst he;have hk:a∈O.ways.map (·.1):=J9 hm;have hc:∀ x,Oo (O.mod a f).ways x=if x=a then some (f l) else Oo O.ways x:=by
  intro x;show Oo (K4 O.ways a f) x=_;rw[XH];by_cases hx:x=a;subst hx; rw[if_pos rfl,if_pos rfl,hm]; rfl;rw[if_neg hx,if_neg hx]
 have hn:(O.mod a f).ways.map (·.1)=O.ways.map (·.1):=Qk _ _ _;refine⟨hr.rooms,by rw[hn]; exact hr.ways,?_,?_,?_,hr.claims,hr.paidK,?_,hr.packs,hr.order,hr.ever,hr.state,hr.st,hr.d3,hr.pk,?_,?_⟩;show h.ends=(K4 O.ways a f).map _;rw[VO (g:=fun p=>(p.1,((p.2.fr:Int),(p.2.to:Int)))) (fun l=>by dsimp only; rw[(h1 l).1,(h1 l).2.1])]; exact hr.ends;show(Ka h.told a _).map (·.1)=_;rw[Z9,hr.told,if_pos hk,hn];intro w v hv hp2;rw[hc] at hv;show Oo (Ka h.told a _) w=_;rw[KY];by_cases hw:w=a;rw[if_pos hw] at hv⊢; cases hv; rfl;rw[if_neg hw] at hv⊢; exact hr.toldU w v hv hp2;intro w v hv;rw[hc] at hv;show Oo h.paid w=_;by_cases hw:w=a;rw[if_pos hw] at hv; cases hv;rw[hw,hr.paid a l hm,hl,hp]; rfl;rw[if_neg hw] at hv; exact hr.paid w v hv;intro w v hv;rw[hc] at hv;show v.packs=h.pks w;by_cases hw:w=a;rw[if_pos hw] at hv; cases hv;rw[(h1 l).2.2,hw]; exact hr.lane a l hm;rw[if_neg hw] at hv; exact hr.lane w v hv;intro w v hv;rw[hc] at hv;by_cases hw:w=a;rw[if_pos hw] at hv; cases hv;exact VN hp;rw[if_neg hw] at hv; exact hr.least w v hv
theorem hr_tell {O:Off} {h:Hs} {W:List Str} {t:Tell} (hW:WF O) (hF:Fit O) (hC:Clm O) (hr:HRl O h) (wt:WT W t) (h0:O.wrong t=0):HRl (O.tell t) (QM h W):=by
 cases wt with
 | room a e1 e2=>
  subst e1; subst e2;rw[hs_room];exact⟨by show h.rooms ++ [a]=O.rooms ++ [a]; rw[hr.rooms],hr.ways,hr.ends,hr.told,hr.toldU,hr.claims,hr.paidK,hr.paid,hr.packs,hr.order,hr.ever,hr.state,hr.st,hr.d3,hr.pk,hr.lane,hr.least⟩
 | least a m e1 e2 _ hm=>
  subst e1; subst e2;obtain⟨l,hl,hp,_⟩:=ZT h0;rw[hs_least,Vq hm];refine hr_mod hr hl (f:=chB (Qf m) false) (fun l=>⟨rfl,rfl,rfl⟩) hp hp ?_;unfold Hs.tolds;rw[hr.toldU a l hl hp]; rfl
 | most a m e1 e2 _ hm=>
  subst e1; subst e2;obtain⟨l,hl,hp,_⟩:=ZT h0;rw[hs_most,Vq hm];refine hr_mod hr hl (f:=chB (Qf m) true) (fun l=>⟨rfl,rfl,rfl⟩) hp hp ?_;unfold Hs.tolds;rw[hr.toldU a l hl hp]; rfl
 | free a e1 e2=>
  subst e1; subst e2;obtain⟨l,hl,hp⟩:=XS h0;rw[hs_free];exact hr_mod hr hl (f:=fun l=>{l with told:=none,top:=none}) (fun l=>⟨rfl,rfl,rfl⟩) hp hp rfl
 | way a b c e1 e2=>
  subst e1; subst e2;obtain⟨hw,hf,ht,_,_⟩:=Jq h0;rw[hs_way];have hc:∀ x,Oo (O.tell (.way a b c)).ways x=if x=a then some ⟨O.ways.length,OW O.rooms b,OW O.rooms c,none,none,[],false⟩ else Oo O.ways x:=by
   intro x;show Oo (O.ways ++ [(a,_)]) x=_;rw[←X6 hw,KY]
  have hn:(O.tell (.way a b c)).ways.map (·.1)=O.ways.map (·.1) ++ [a]:=by
   show(O.ways ++ [_]).map (fun p:Str × Lane=>p.1)=_;rw[dG]; rfl
  refine⟨hr.rooms,?_,?_,?_,?_,hr.claims,hr.paidK,?_,hr.packs,hr.order,hr.ever,hr.state,hr.st,hr.d3,hr.pk,?_,?_⟩;show h.ways ++ [a]=_;rw[hn,hr.ways];show Ka h.ends a _=(O.ways ++ [_]).map _;have hk:h.ends.map (·.1)=O.ways.map (·.1):=by rw[hr.ends,dN]; rfl
  rw[X6 (by rw[hk]; exact hw),dG,hr.ends,hr.rooms];unfold ixE;rw[if_pos hf,if_pos ht]; rfl;show(Ka h.told a _).map (·.1)=_;rw[Z9,hr.told,if_neg hw,hn];intro w v hv hp;rw[hc] at hv;show Oo (Ka h.told a _) w=_;rw[KY];by_cases hx:w=a;rw[if_pos hx] at hv⊢; cases hv; rfl;rw[if_neg hx] at hv⊢; exact hr.toldU w v hv hp;intro w v hv;rw[hc] at hv;by_cases hx:w=a;rw[if_pos hx] at hv; cases hv;show Oo h.paid w=none;refine Va ?_;rw[hr.paidK,hx];intro hcl;obtain⟨l,hl,_⟩:=hC a hcl;exact hw (J9 hl);rw[if_neg hx] at hv; exact hr.paid w v hv
  ·intro w v hv;rw[hc] at hv;by_cases hx:w=a
   ·rw[if_pos hx] at hv; cases hv;show []=h.pks w;symm;refine List.filter_eq_nil_iff.2 fun k hk=>?_
    rw[hr.order] at hk;intro hcn;simp only[dI,decide_eq_true_eq] at hcn;obtain⟨h1,h2⟩:=hcn;unfold Hs.stt at h2;rw[hr.st k hk] at h2
    cases hd:Oo O.packs k with
    | none=>rw[hd] at h2; exact absurd h2 aD
    | some d=>
     rw[hr.pk k d hd] at h1;obtain⟨i,_,hi,_⟩:=X4 hd;have:=hW.home _ (fG hi);rw[show(k,d).2.1=a by rw[←hx]; exact h1] at this;exact hw this
   rw[if_neg hx] at hv; exact hr.lane w v hv
  intro w v hv;rw[hc] at hv;by_cases hx:w=a;rw[if_pos hx] at hv; cases hv;exact VN rfl;rw[if_neg hx] at hv; exact hr.least w v hv
 | claim a m e1 e2 _ hm=>
  subst e1; subst e2;obtain⟨l,hl,hp⟩:=Xv h0;rw[hs_claim,Vq hm];have hnc:a ∉ O.claims:=by
   intro hcl;obtain⟨l2,h1,h2⟩:=hC a hcl;rw[hl] at h1; cases h1;rw[hp] at h2; cases h2
  have hc:∀ x,Oo (O.tell (.claim a (Qf m))).ways x=if x=a then some {l with paid:=true,told:=some (Qf m)} else Oo O.ways x:=by
   intro x;show Oo (K4 O.ways a (fun l=>{l with paid:=true,told:=some (Qf m)})) x=_;rw[XH];by_cases hx:x=a;subst hx; rw[if_pos rfl,if_pos rfl,hl]; rfl;rw[if_neg hx,if_neg hx]
  have hn:(O.tell (.claim a (Qf m))).ways.map (·.1)=O.ways.map (·.1):=Qk _ _ (fun l=>{l with paid:=true,told:=some (Qf m)});refine⟨hr.rooms,by rw[hn]; exact hr.ways,?_,by rw[hn]; exact hr.told,?_,?_,?_,?_,hr.packs,hr.order,hr.ever,hr.state,hr.st,hr.d3,hr.pk,?_,?_⟩;show h.ends=(K4 O.ways a (fun l=>{l with paid:=true,told:=some (Qf m)})).map fun p=>(p.1,((p.2.fr:Int),(p.2.to:Int)))
  rw[VO (w:=a) (f:=(fun l=>{l with paid:=true,told:=some (Qf m)})) (g:=fun p=>(p.1,((p.2.fr:Int),(p.2.to:Int)))) (fun l=>rfl)]; exact hr.ends;intro w v hv hp2;rw[hc] at hv;by_cases hx:w=a;rw[if_pos hx] at hv; cases hv; cases hp2;rw[if_neg hx] at hv; exact hr.toldU w v hv hp2;show h.claims ++ [a]=O.claims ++ [a];rw[hr.claims];show(Ka h.paid a _).map (·.1)=O.claims ++ [a];rw[Z9,hr.paidK,if_neg hnc];intro w v hv;rw[hc] at hv;show Oo (Ka h.paid a _) w=_;rw[KY];by_cases hx:w=a;rw[if_pos hx] at hv⊢; cases hv; rfl;rw[if_neg hx] at hv⊢; exact hr.paid w v hv;intro w v hv;rw[hc] at hv;by_cases hx:w=a;rw[if_pos hx] at hv; cases hv; rw[hx]; exact hr.lane a l hl;rw[if_neg hx] at hv; exact hr.lane w v hv;intro w v hv;rw[hc] at hv;by_cases hx:w=a;rw[if_pos hx] at hv; cases hv;show(l.packs.length:Int)≤Qf m;obtain⟨i,h1,h2⟩:=Jw hl;have hpl:l.pl=i:=by
   have:=hW.pl i h1;rwa [show O.ways.getD i default=(a,l) by rw[dA,h2]; rfl] at this
  have ha:=JB hW hF h1;rw[Zh hl hp,hpl] at h0;have hlo:O.spLo i=X3 O.ws i:=if_pos ha;obtain⟨⟨k,hk,hki⟩,_⟩:=YD hF (show i<O.ws.length by rw[O.ws_len]; exact h1);obtain⟨h3,_⟩:=Vv hk h2;have:=hr.least a l hl;split at h0;cases h0;omega;rw[if_neg hx] at hv; exact hr.least w v hv
 | pack m a e1 e2 hm=>
  subst e1; subst e2;obtain⟨hev,l,hl,_,hlt,_⟩:=Yz h0;rw[hs_pack,Vq hm];generalize Qf m=p at *;have hnp:p ∉ O.packs.map (·.1):=fun hx=>by obtain⟨q,hq,e⟩:=dR.1 hx; exact hev (e ▸ hW.pev q hq)
  have hc:∀ x,Oo (O.tell (.pack p a)).ways x=if x=a then some (chP p l) else Oo O.ways x:=by
   intro x;show Oo (K4 O.ways a _) x=_;rw[XH];by_cases hx:x=a;subst hx; rw[if_pos rfl,if_pos rfl,hl]; rfl;rw[if_neg hx,if_neg hx]
  have hcp:∀ x,Oo (O.tell (.pack p a)).packs x=if x=p then some (a,1) else Oo O.packs x:=by
   intro x;show Oo (O.packs ++ [(p,(a,1))]) x=_;rw[←X6 hnp,KY]
  have hn:(O.tell (.pack p a)).ways.map (·.1)=O.ways.map (·.1):=Qk _ _ _;have hpks:∀ w,({h with packs:=Ka h.packs p a,state:=Ka h.state p 1,order:=h.order ++ [p]}:Hs).pks w=h.pks w ++ if a=w then [p] else []:=by
   intro w;unfold Hs.pks Hs.stt;dsimp only;rw[RS];congr 1;refine fB fun k hk=>?_
   rw[hr.order] at hk;have hkp:k≠p:=fun e=>hev (e ▸ hk)
   rw[KY,KY,if_neg hkp,if_neg hkp];rw[KY,KY,if_pos rfl,if_pos rfl];by_cases hx:a=w;rw[if_pos hx,if_pos (by simp[hx])];rw[if_neg hx,if_neg (by simp[hx])]
  refine⟨hr.rooms,by rw[hn]; exact hr.ways,?_,by rw[hn]; exact hr.told,?_,hr.claims,hr.paidK,?_,?_,?_,?_,?_,?_,?_,?_,?_,?_⟩;show h.ends=(K4 O.ways a (chP p)).map fun p=>(p.1,((p.2.fr:Int),(p.2.to:Int)))
  rw[VO (w:=a) (f:=chP p) (g:=fun p=>(p.1,((p.2.fr:Int),(p.2.to:Int)))) (fun l=>rfl)]; exact hr.ends;intro w v hv hp2;rw[hc] at hv;by_cases hx:w=a;rw[if_pos hx] at hv; cases hv; rw[hx]; exact hr.toldU a l hl hp2;rw[if_neg hx] at hv; exact hr.toldU w v hv hp2;intro w v hv;rw[hc] at hv;by_cases hx:w=a;rw[if_pos hx] at hv; cases hv; rw[hx]; exact hr.paid a l hl;rw[if_neg hx] at hv; exact hr.paid w v hv;show(Ka h.packs p a).map (·.1)=O.ever ++ [p];rw[Z9,hr.packs,if_neg hev];show h.order ++ [p]=O.ever ++ [p];rw[hr.order];exact Yv hr.ever hev;show(Ka h.state p 1).map (·.1)=O.ever ++ [p];rw[Z9,hr.state,if_neg hev];intro k hk;rw[hcp];show Oo (Ka h.state p 1) k=_;rw[KY];by_cases hx:k=p;rw[if_pos hx,if_pos hx];rw[if_neg hx,if_neg hx];refine hr.st k ?_;have hk2:k∈O.ever ++ [p]:=hk;rcases dH.1 hk2 with h1|h1
  exact h1;exact absurd (dP.1 h1) hx;intro k d hd;rw[hcp] at hd;by_cases hx:k=p;rw[if_pos hx] at hd; cases hd; exact .inl rfl;rw[if_neg hx] at hd; exact hr.d3 k d hd;intro k d hd;rw[hcp] at hd;show Oo (Ka h.packs p a) k=_;rw[KY];by_cases hx:k=p;rw[if_pos hx] at hd⊢; cases hd; rfl;rw[if_neg hx] at hd⊢; exact hr.pk k d hd;intro w v hv;rw[hc] at hv;rw[hpks];by_cases hx:w=a;rw[if_pos hx] at hv; cases hv;rw[if_pos hx.symm,hx,←hr.lane a l hl]; rfl;rw[if_neg hx] at hv;rw[if_neg (fun e=>hx e.symm),List.append_nil]; exact hr.lane w v hv
  ·intro w v hv;rw[hc] at hv;by_cases hx:w=a
   ·rw[if_pos hx] at hv; cases hv
    cases hpd:l.paid with
    | false=>exact VN hpd
    | true=>
     have h1:(chP p l).lo=l.hi:=by
      unfold Lane.lo Lane.hi;rw[if_pos (show(chP p l).paid=true from hpd),if_pos hpd]; rfl
     rw[h1];show((l.packs ++ [p]).length:Int)≤_;rw[dO,dE]; omega
   rw[if_neg hx] at hv; exact hr.least w v hv
 | move k m s hk e1 e2 hm=>
  subst e1; subst e2;obtain⟨d,hd⟩:=Xm h0;rw[hs_move h k m s hk,Vq hm];generalize Qf m=p at *;have hpe:p∈O.ever:=by
   obtain⟨i,_,hi,_⟩:=X4 hd;exact hW.pev _ (fG hi)
  have hs3:s=0∨s=1∨s=2∨s=3:=by rcases hk with ⟨_,e⟩|⟨_,e⟩|⟨_,e⟩|⟨_,e⟩ <;> omega
  have hpkd:=hr.pk p d hd;have hpks:∀ w,({h with state:=Ka h.state p s}:Hs).pks w=if s=0 then (h.pks w).filter fun q=>!decide (q=p) else h.pks w:=by
   intro w;unfold Hs.pks Hs.stt;dsimp only;by_cases hs:s=0;rw[if_pos hs,List.filter_filter];refine fB fun k hk=>?_
   rw[KY];by_cases hx:k=p;rw[if_pos hx,hs]; simp[hx];rw[if_neg hx]; simp[hx];rw[if_neg hs];refine fB fun k hk=>?_
   rw[KY];by_cases hx:k=p;rw[if_pos hx];have h1:=hr.st p hpe;rw[hd] at h1;dsimp only at h1;rw[hx,h1];have h2:=hr.d3 p d hd;congr 1;rw[decide_eq_decide];show 0<s↔0<d.2;omega;rw[if_neg hx]
  have hst:(Ka h.state p s).map (·.1)=O.ever:=by rw[Z9,hr.state,if_pos hpe]
  by_cases hs:s=0;subst hs;have e:O.tell (.move p 0) = {O.mod d.1 (fun l=>{l with packs:=l.packs.filter fun q=>!decide (q=p)}) with packs:=Zr O.packs p}:=by
   unfold Off.tell; dsimp only; rw[hd]; dsimp only; rw[if_pos rfl]
  rw[e];obtain⟨l,hl⟩:=hW.homeM hd;have hc:∀ x,Oo (K4 O.ways d.1 fun l=>{l with packs:=l.packs.filter fun q=>!decide (q=p)}) x=(Oo O.ways x).map fun l=>if x=d.1 then {l with packs:=l.packs.filter fun q=>!decide (q=p)} else l:=by
   intro x;rw[XH];by_cases hx:x=d.1;rw[if_pos hx]; congr 1; funext l; rw[if_pos hx];rw[if_neg hx]; cases Oo O.ways x <;> simp[hx]
  have hn:=Qk O.ways d.1 fun l=>{l with packs:=l.packs.filter fun q=>!decide (q=p)}
  refine⟨hr.rooms,by rw[hr.ways]; exact hn.symm,?_,by rw[hr.told]; exact hn.symm,?_,hr.claims,hr.paidK,?_,hr.packs,hr.order,hr.ever,hst,?_,?_,?_,?_,?_⟩;show h.ends=(K4 O.ways d.1 (fun l=>{l with packs:=l.packs.filter fun q=>!decide (q=p)})).map fun p=>(p.1,((p.2.fr:Int),(p.2.to:Int)))
  rw[VO (w:=d.1) (f:=(fun l=>{l with packs:=l.packs.filter fun q=>!decide (q=p)})) (g:=fun p=>(p.1,((p.2.fr:Int),(p.2.to:Int)))) (fun l=>rfl)]; exact hr.ends;intro w v hv hp2;have hv2:=(hc w).symm.trans hv;rw[dS] at hv2;obtain⟨l2,h1,rfl⟩:=hv2;have h2:=hr.toldU w l2 h1 (by split at hp2 <;> exact hp2);split <;> exact h2;intro w v hv;have hv2:=(hc w).symm.trans hv;rw[dS] at hv2;obtain⟨l2,h1,rfl⟩:=hv2;have h2:=hr.paid w l2 h1;split <;> exact h2;intro k hk;show Oo (Ka h.state p 0) k=some (match Oo (Zr O.packs p) k with|some d=>d.2|none=>0);rw[KY,Jj hW.pnd];by_cases hx:k=p;rw[if_pos hx,if_pos hx];rw[if_neg hx,if_neg hx]; exact hr.st k hk;intro k d' hd';have hd2:Oo (Zr O.packs p) k=some d':=hd';rw[Jj hW.pnd] at hd2;split at hd2;cases hd2;exact hr.d3 k d' hd2;intro k d' hd';have hd2:Oo (Zr O.packs p) k=some d':=hd';rw[Jj hW.pnd] at hd2;split at hd2;cases hd2;exact hr.pk k d' hd2;intro w v hv;have hv2:=(hc w).symm.trans hv;rw[dS] at hv2;obtain⟨l2,h1,rfl⟩:=hv2;rw[hpks,if_pos rfl,←hr.lane w l2 h1];by_cases hx:w=d.1;rw[if_pos hx];rw[if_neg hx];symm;refine List.filter_eq_self.2 fun k hk=>?_
  rw[hr.lane w l2 h1] at hk;have h3:=(List.mem_filter.1 hk).2;simp only[dI,decide_eq_true_eq] at h3;have hkp:k≠p:=by
   intro e;rw[e,hpkd] at h3;exact hx h3.1.symm
  simp[hkp];intro w v hv;have hv2:=(hc w).symm.trans hv;rw[dS] at hv2;obtain⟨l2,h1,rfl⟩:=hv2;by_cases hx:w=d.1;rw[if_pos hx];by_cases hpd:l2.paid=true;have h3:=hr.least w l2 h1;have h5:=fF (fun q=>!decide (q=p)) l2.packs;unfold Lane.lo at h3⊢;dsimp only at h3 h5⊢;rw[if_pos hpd] at h3;rw[if_pos hpd];omega;exact VN (l:={l2 with packs:=l2.packs.filter fun q=>!decide (q=p)}) (by simpa using hpd);rw[if_neg hx]; exact hr.least w l2 h1;have e:O.tell (.move p s) = {O with packs:=Ka O.packs p (d.1,s)}:=by
   unfold Off.tell; dsimp only; rw[hd]; dsimp only; rw[if_neg hs]
  rw[e];refine⟨hr.rooms,hr.ways,hr.ends,hr.told,hr.toldU,hr.claims,hr.paidK,hr.paid,hr.packs,hr.order,hr.ever,hst,?_,?_,?_,?_,hr.least⟩;intro k hk;show Oo (Ka h.state p s) k=some (match Oo (Ka O.packs p (d.1,s)) k with|some d=>d.2|none=>0);rw[KY,KY];by_cases hx:k=p;rw[if_pos hx,if_pos hx];rw[if_neg hx,if_neg hx]; exact hr.st k hk;intro k d' hd';have hd2:Oo (Ka O.packs p (d.1,s)) k=some d':=hd';rw[KY] at hd2;split at hd2
  cases hd2; show s=1∨s=2∨s=3; omega
  exact hr.d3 k d' hd2;intro k d' hd';have hd2:Oo (Ka O.packs p (d.1,s)) k=some d':=hd';rw[KY] at hd2;split at hd2;rename_i hx; cases hd2; rw[hx]; exact hpkd;exact hr.pk k d' hd2;intro w l hl;rw[hpks,if_neg hs]; exact hr.lane w l hl
theorem hr0:HRl YT hs0:=by
 refine⟨rfl,rfl,rfl,rfl,?_,rfl,rfl,?_,rfl,rfl,by decide,rfl,?_,?_,?_,?_,?_⟩;intro w l h; cases h;intro w l h; cases h;intro k h; cases h;intro k d h; cases h;intro k d h; cases h;intro w l h; cases h;intro w l h; cases h
theorem Done.hr {lines:List Str} (hD:Done lines):HRl (after lines) (Jh lines):=by
 induction hD with
 | nil=>exact hr0
 | @snoc lines line h he ih=>
  obtain⟨h1,h2,_⟩:=QS he;rw[Q7,hsOf_snoc];exact hr_tell h.wf.1 h.fit h.clm ih (wt_of h1) h2
end Go.Am
namespace Go.Am
section
variable {h h0 h1 h2:AHeap} {b o:AV} {l m:List Str} {G:List Obj}
theorem Bk.lift {X:List Obj} (st:St h h1 X) (hB:Bk h1 h2 b l []):Bk h h2 b l []:=by
 obtain⟨vl,A,hb,hS⟩:=hB;exact⟨vl,A,hb,St.drop (A:=X) (St.perm List.perm_append_comm (St.trans st hS))⟩
end
theorem yLine_len (u:Bool) (q:Q4) (hq:q.Ok):(K8 u q).length≤60:=by
 have h1:(Zb waysL q.b).length≤4:=QO aD;have h2:(dM ((q.c % 10:Nat):Int)).length≤21:=fP _ aA aA;have h3:(dM ((1+q.c % 5:Nat):Int)).length≤21:=fP _ aA aA;have h4:(Zb roomsL q.c).length≤5:=QO aD;have h5:(Zb roomsL q.d).length≤5:=QO aD;have h6:(Zb [[118,97,117,108,116],[116,97,98,108,101]] q.d).length≤5:=QO aD;have h7:(Zb [[115,101,97,108,32],[98,117,114,110,32]] q.d).length≤5:=QO aD;have h8:(Zb [[100,101,97,108,32],[98,97,99,107,32]] q.d).length≤5:=QO aD;unfold K8 yW yN yP;dsimp only
 repeat' split
 all_goals simp only[dO,List.length_cons,fO]
 all_goals omega
theorem RK {u:Bool} {y:List Q4} (hy:∀ q∈y,q.Ok):∀ x∈ZP u y,x.length≤1000000:=by
 intro x hx;rcases dH.1 hx with h|h
 have:∀ x∈Xx,x.length≤1000000:=by decide
 exact this x h;obtain⟨q,hq,rfl⟩:=dR.1 h;have:=yLine_len u q (hy q (List.mem_of_mem_take hq));omega
theorem WH (u:Bool) (y:List Q4):(ZP u y).length≤30:=by
 unfold ZP;rw[dO,dU,List.length_take];show 6+_≤30;omega
end Go.Am
namespace Go.Am
def tOk : Tell → Bool
  | .room r=>decide (r∈roomsL ++ [[118,97,117,108,116],[116,97,98,108,101]])
  | .way w f t=>decide (w∈waysL) && decide (f∈roomsL) && decide (t∈roomsL)
  | .bound w n _=>decide (w∈waysL) && decide (0≤n) && decide (n≤9)
  | .pack p w=>decide (1≤p) && decide (p≤5) && decide (w∈waysL)
  | .move p _=>decide (1≤p) && decide (p≤5)
  | .claim w n=>decide (w∈waysL) && decide (0≤n) && decide (n≤9)
  | .free w=>decide (w∈waysL)
theorem yk1:∀ b,b<5→∀ c,c<10→tOk (Kv ([108,101,97,115,116,32] ++ waysL.getD b [] ++ [32] ++ dM ((c:Nat):Int)))=true:=by decide +kernel
theorem yk2:∀ b,b<5→∀ c,c<10→tOk (Kv ([109,111,115,116,32] ++ waysL.getD b [] ++ [32] ++ dM ((c:Nat):Int)))=true:=by decide +kernel
theorem yk3:∀ b,b<5→∀ c,c<5→tOk (Kv ([112,97,99,107,32] ++ dM ((1+c:Nat):Int) ++ [32] ++ waysL.getD b []))=true:=by decide +kernel
theorem yk4:∀ d,d<2→∀ c,c<5→tOk (Kv ([[115,101,97,108,32],[98,117,114,110,32]].getD d [] ++ dM ((1+c:Nat):Int)))=true:=by decide +kernel
theorem yk5:∀ d,d<2→∀ c,c<5→tOk (Kv ([[100,101,97,108,32],[98,97,99,107,32]].getD d [] ++ dM ((1+c:Nat):Int)))=true:=by decide +kernel
theorem yk6:∀ b,b<5→∀ c,c<10→tOk (Kv ([99,108,97,105,109,32] ++ waysL.getD b [] ++ [32] ++ dM ((c:Nat):Int)))=true:=by decide +kernel
theorem yk7:∀ b,b<5→tOk (Kv ([102,114,101,101,32] ++ waysL.getD b []))=true:=by decide +kernel
theorem yk8:∀ b,b<5→∀ c,c<3→∀ d,d<3→tOk (Kv ([119,97,121,32] ++ waysL.getD b [] ++ [32] ++ roomsL.getD c [] ++ [32] ++ roomsL.getD d []))=true:=by decide +kernel
theorem yk9:∀ d,d<2→tOk (Kv ([114,111,111,109,32] ++ [[118,97,117,108,116],[116,97,98,108,101]].getD d []))=true:=by decide +kernel
theorem yk0:∀ x∈Xx,tOk (Kv x)=true:=by decide +kernel
theorem yLine_ok (u:Bool) (q:Q4):K8 u q=Vc∨tOk (Kv (K8 u q))=true:=by
 have hb:q.b % 5<5:=dY _ aD;have h10:q.c % 10<10:=dY _ aD;have h5:q.c % 5<5:=dY _ aD;have h3:q.c % 3<3:=dY _ aD;have hd3:q.d % 3<3:=dY _ aD;have hd2:q.d % 2<2:=dY _ aD;unfold K8;dsimp only;split;exact .inr (yk1 _ hb _ h10);split;exact .inr (yk2 _ hb _ h10);split;exact .inr (yk3 _ hb _ h5);split;exact .inr (yk4 _ hd2 _ h5);split;exact .inr (yk5 _ hd2 _ h5);split;exact .inr (yk6 _ hb _ h10);split;exact .inr (yk7 _ hb);split;exact .inr (yk8 _ hb _ h3 _ hd3);split;exact .inl rfl;exact .inr (yk9 _ hd2)
theorem yLines_ok {u:Bool} {y:List Q4}:∀ x∈ZP u y,x=Vc∨tOk (Kv x)=true:=by
 intro x hx;rcases dH.1 hx with h|h
 exact .inr (yk0 x h);obtain⟨q,_,rfl⟩:=dR.1 h;exact yLine_ok u q
theorem doL_mem {ls:List Str} {x z:Str} (h:z∈doL ls x):z∈ls∨z=x:=by
 unfold doL at h;split at h;simpa using h;exact .inl h
theorem Um {xs:List Str}:∀ i,i≤xs.length→∀ z∈Xs xs i,z∈xs:=by
 intro i
 induction i with
 | zero=>intro _ z hz; cases hz
 | succ i ih=>
  intro hi z hz;rw[Xs] at hz;by_cases hx:xs.getD i []=Vc;rw[U3 hx] at hz;exact ih aA z ((List.dropLast_sublist _).subset hz);rw[bk_do hx] at hz;rcases doL_mem hz with h|h
  exact ih aA z h;rw[h]; exact getD_mem aA
theorem bookTo_len {xs:List Str}:∀ i,(Xs xs i).length≤i:=by
 intro i
 induction i with
 | zero=>exact dF _
 | succ i ih=>
  rw[Xs];by_cases hx:xs.getD i []=Vc;rw[U3 hx,List.length_dropLast]; omega;rw[bk_do hx];unfold doL;split;rw[dO,dE]; omega;omega
structure YL (L:List Str):Prop where
  done:Done L
  ok:∀ x∈L,tOk (Kv x)=true
  len:L.length≤30
theorem Done.noUndo {L:List Str} (hD:Done L):∀ x∈L,x≠Vc:=by
 induction hD with
 | nil=>intro x hx; cases hx
 | @snoc lines line h he ih=>
  intro x hx;rcases dH.1 hx with h1|h1
  exact ih x h1;rw[dP.1 h1];rintro rfl;have:=(QS he).1;revert this;decide +kernel
theorem YL.book {u:Bool} {y:List Q4} (hD:Done (YK (ZP u y))):YL (YK (ZP u y)):=by
 refine⟨hD,?_,fD (bookTo_len _) (WH u y)⟩;intro x hx;rcases yLines_ok (u:=u) (y:=y) x (Um _ (dF _) x hx) with h|h
 exact absurd h (hD.noUndo x hx);exact h
structure YOff (O:Off):Prop where
  ways:∀ w∈O.ways.map (·.1),w∈waysL
  ever:∀ k∈O.ever,1≤k∧k≤5
  rooms:∀ r∈O.rooms,r∈roomsL ++ [[118,97,117,108,116],[116,97,98,108,101]]
theorem yoff_tell {O:Off} (hY:YOff O) {t:Tell} (h0:O.wrong t=0) (ht:tOk t=true):YOff (O.tell t):=by
 cases t with
 | room r=>
  refine⟨hY.ways,hY.ever,fun x hx=>?_⟩;have hx2:x∈O.rooms ++ [r]:=hx;rcases dH.1 hx2 with h|h
  exact hY.rooms x h;rw[dP.1 h]; exact of_decide_eq_true ht
 | way w f t=>
  refine⟨fun x hx=>?_,hY.ever,hY.rooms⟩;have hx2:x∈(O.ways ++ [(w,(⟨O.ways.length,OW O.rooms f,OW O.rooms t,none,none,[],false⟩:Lane))]).map (·.1):=hx;rw[dG] at hx2;rcases dH.1 hx2 with h|h
  exact hY.ways x h;rw[dP.1 h];simp only[tOk,dI,decide_eq_true_eq] at ht;exact ht.1.1
 | bound w n g=>exact⟨by rw[show(O.tell (.bound w n g)).ways=K4 O.ways w (chB n g) from rfl,Qk]; exact hY.ways,hY.ever,hY.rooms⟩
 | pack p w=>
  refine⟨by rw[show(O.tell (.pack p w)).ways=K4 O.ways w (chP p) from rfl,Qk]; exact hY.ways,fun x hx=>?_,hY.rooms⟩;have hx2:x∈O.ever ++ [p]:=hx;rcases dH.1 hx2 with h|h
  exact hY.ever x h;rw[dP.1 h];simp only[tOk,dI,decide_eq_true_eq] at ht;exact ht.1
 | move p s=>
  obtain⟨d,hd⟩:=Xm h0;unfold Off.tell;dsimp only;rw[hd];dsimp only;split;exact⟨by rw[show(O.mod d.1 _).ways=K4 O.ways d.1 _ from rfl,Qk]; exact hY.ways,hY.ever,hY.rooms⟩;exact⟨hY.ways,hY.ever,hY.rooms⟩
 | claim w n=>exact⟨by rw[show(O.tell (.claim w n)).ways=K4 O.ways w (fun l=>{l with paid:=true,told:=some n}) from rfl,Qk]; exact hY.ways,hY.ever,hY.rooms⟩
 | free w=>exact⟨by rw[show(O.tell (.free w)).ways=K4 O.ways w (fun l=>{l with told:=none,top:=none}) from rfl,Qk]; exact hY.ways,hY.ever,hY.rooms⟩
theorem yoff_of {L:List Str} (hD:Done L) (h:∀ x∈L,tOk (Kv x)=true):YOff (after L):=by
 induction hD with
 | nil=>exact⟨fun w hw=>(by cases hw),fun k hk=>(by cases hk),fun r hr=>(by cases hr)⟩
 | @snoc lines line hd he ih=>
  rw[Q7];exact yoff_tell (ih fun x hx=>h x (List.mem_append_left _ hx)) (QS he).2.1 (h line (List.mem_append_right _ (dP.2 rfl)))
theorem YL.off {L:List Str} (h:YL L):YOff (after L):=yoff_of h.done h.ok
end Go.Am
namespace Go.Am
theorem WF.plM {O:Off} (hW:WF O) {w:Str} {l:Lane} (h:Oo O.ways w=some l):l.pl<O.ways.length∧O.ways[l.pl]? = some (w,l):=by
 obtain⟨i,h1,h2⟩:=Jw h;have:=hW.pl i h1;rw[show O.ways.getD i default=(w,l) by rw[dA,h2]; rfl] at this;have e:l.pl=i:=this;rw[e]; exact⟨h1,h2⟩
theorem sp_is {O:Off} (hW:WF O) (hF:Fit O) {w:Str} {l:Lane} (h:Oo O.ways w=some l):IsLo O.ws l.pl (O.spLo l.pl)∧IsHi O.ws l.pl (O.spHi l.pl):=by
 obtain⟨h1,h2⟩:=hW.plM h;have ha:=JB hW hF h1;have e1:O.spLo l.pl=X3 O.ws l.pl:=if_pos ha;have e2:O.spHi l.pl=Ym O.ws l.pl:=if_pos ha;rw[e1,e2];have hi:l.pl<O.ws.length:=by rw[O.ws_len]; exact h1
 exact⟨YD hF hi,Vu hF hi⟩
theorem sp_lane {O:Off} (hW:WF O) (hF:Fit O) {w:Str} {l:Lane} (h:Oo O.ways w=some l):l.lo≤O.spLo l.pl∧O.spLo l.pl≤O.spHi l.pl∧O.spHi l.pl≤l.hi:=by
 obtain⟨⟨⟨n,hn,e1⟩,h1⟩,⟨m,hm,e2⟩,h2⟩:=sp_is hW hF h;obtain⟨_,h3⟩:=hW.plM h;have a:=Vv hn h3;have b:=Vv hm h3;have c:=h1 m hm;omega
end Go.Am
namespace Go.Am
def Hs.pkB (H:Hs) (w:Str) (j:Nat):Bool:=match H.packs[j]? with
  | some p=>decide (p.2=w) && decide (0<H.stt p.1)
  | none=>false
def Hs.cntD (H:Hs) (w:Str) (D:List Nat):Nat:=(D.filter (H.pkB w)).length
def Hs.cntP (H:Hs) (w:Str):Nat:=H.cntD w (fT H.packs.length)
def Hs.bLo (H:Hs) (w:Str):Int:=match Oo H.paid w with
  | some n=>n
  | none=>max (H.tolds w).1 (H.cntP w:Int)
def Hs.bHi (H:Hs) (w:Str):Int:=match Oo H.paid w with
  | some n=>n
  | none=>(H.tolds w).2
end Go.Am
namespace Go.Am
theorem mget_map {α β:Type} {l:List (Str × α)} {g : α→β} (w:Str):Oo (l.map fun p=>(p.1,g p.2)) w=(Oo l w).map g:=by
 induction l with
 | nil=>rfl
 | cons a l ih=>
  rw[dQ,Oo,Oo];split;rfl;exact ih
def Hs.endsV (H:Hs) (w:Str):Int × Int:=(Oo H.ends w).getD (0,0)
def Hs.way (H:Hs) (w:Str):W:=⟨(H.endsV w).1,(H.endsV w).2,H.bLo w,H.bHi w⟩
theorem ends_is {O:Off} {H:Hs} (hr:HRl O H) {w:Str} {l:Lane} (hm:Oo O.ways w=some l):H.endsV w=((l.fr:Int),(l.to:Int)):=by
 unfold Hs.endsV;rw[hr.ends,mget_map (g:=fun l:Lane=>((l.fr:Int),(l.to:Int))),hm]; rfl
end Go.Am
namespace Go.Am
theorem chk_of_B {rm:Int} {ws:List W} (hB:BOk rm ws):Ky rm ws=0:=hB.chk
theorem rooms_ok:∀ r:Nat,r≤6→∀ k:Nat,k<2 ^ r→Y4 (r:Int) (O9 k 6) (O9 k 6).length=0∧setTo (O9 k 6) (O9 k 6).length=k:=by decide +kernel
theorem R3:∀ s:Nat,s<64→O9 s 6 = []→s=0:=by decide +kernel
theorem UO:∀ s:Nat,s<64→∀ x:Nat,x<6→s.testBit x=true→((x:Nat):Int)∈O9 s 6:=by decide +kernel
theorem bestTo_p {p:Nat→Bool}:∀ {k b:Nat},Qr p k=some b→b<k∧p b=true:=by
 intro k
 induction k with
 | zero=>intro b h; cases h
 | succ k ih=>
  intro b h;rw[Qr] at h;split at h;rename_i hc;cases h;rw[dI] at hc;exact⟨Nat.lt_succ_self _,hc.1⟩;obtain⟨h1,h2⟩:=ih h;exact⟨by omega,h2⟩
theorem Wz {r:Nat} {ws:List W} (hB:BOk (r:Int) ws) {i s:Nat} (hi:i<ws.length) (hs:s<2 ^ r) (hc:Qy ws s i=true):sayE (r:Int) ws (O9 s 6) (i:Int)=0∧sayV (r:Int) ws (O9 s 6) (i:Int)=Xn ws s i:=by
 have h6:=hB.r6;have h:=rooms_ok r aA s hs;have hk:askR (r:Int) ws (i:Int)=0:=by rw[askR,if_pos (chk_of_B hB),if_pos aA]
 have hse:setE (r:Int) (O9 s 6)=s:=by rw[setE,if_pos h.1,h.2]
 have:=say_ok (rm:=(r:Int)) (ws:=ws) (l:=O9 s 6) (i:=(i:Int)) hk h.1 (by rw[hse,dW]; exact hc);rw[hse,dW] at this;exact this
theorem RP {r : Nat} {ws : List W} {i : Nat} (hB : BOk (r : Int) ws) (hx : ∃ n, Flow ws n) (ha : Q8 (r : Int) ws (i : Int) = 0) (hi : i < ws.length) (g : Bool) :
    (Kq (r:Int) ws (i:Int) g = []∧XC ws i g=YV ws i g)∨(Kq (r:Int) ws (i:Int) g≠[]∧∃ s,s<2 ^ r∧pB ws i g s=true∧Kq (r:Int) ws (i:Int) g=O9 s 6):=by
 have hr6:=hB.r6;have hpw : 2 ^ r≤2 ^ 6:=fH aD aA;by_cases he:XC ws i g=YV ws i g;refine .inl ⟨?_,he⟩;rw[Kq,if_pos ha,dW,if_pos he];refine .inr ?_;obtain⟨s,hs,hp⟩:=bound_some hB hx hi he;obtain⟨b,hb⟩:=RO (p:=pB ws i g) hp hs;obtain⟨h1,h2⟩:=bestTo_p hb;have e:Kq (r:Int) ws (i:Int) g=O9 b 6:=by
  rw[Kq,if_pos ha,dW,if_neg he,dW];unfold Jf;rw[hb]
 refine⟨?_,b,h1,h2,e⟩;rw[e];intro h0;have:=R3 b aA h0;subst this;unfold pB lvs ens inS at h2
 cases g <;> simp at h2
theorem nodup_tell {O:Off} (hn:O.rooms.Nodup) {t:Tell} (h0:O.wrong t=0):(O.tell t).rooms.Nodup:=by
 cases t with
 | room r=>exact Yv hn (UN h0).1
 | move p s=>
  unfold Off.tell;dsimp only;split;exact hn;split <;> exact hn
 | way w f t=>exact hn
 | bound w n g=>exact hn
 | pack p w=>exact hn
 | claim w n=>exact hn
 | free w=>exact hn
theorem Done.rnd {L:List Str} (hD:Done L):(after L).rooms.Nodup:=by
 induction hD with
 | nil=>exact List.nodup_nil
 | @snoc lines line h he ih=>
  rw[Q7];exact nodup_tell ih (QS he).2.1
theorem ixOf_at {l:List Str} (hn:l.Nodup) {i:Nat} (hi:i<l.length):ixE l (l.getD i [])=(i:Int):=by
 have hm:l.getD i []∈l:=getD_mem hi;unfold ixE;rw[if_pos hm];have h1:=YQ hm;have h2:=X2 hm;have h3:l[i]? = some (l.getD i []):=by rw[dA,fA hi]; rfl
 have:=(List.getElem?_inj h2 hn).1 (h1.trans h3.symm);omega
theorem rn_back {O:Off} (hn:O.rooms.Nodup) {l:List Int} (hl:∀ x∈l,0≤x∧x<(O.rooms.length:Int)):(O.rn l).map (ixE O.rooms)=l:=by
 unfold Off.rn;rw[dN];have:l.map (ixE O.rooms ∘ fun x=>O.rooms.getD x.toNat [])=l.map id:=by
  refine dX fun x hx=>?_
  obtain⟨h1,h2⟩:=hl x hx;show ixE O.rooms (O.rooms.getD x.toNat [])=x;rw[ixOf_at hn aA];omega
 rw[this,List.map_id]
structure WhyS (O:Off) (H:Hs) (w:Str) (n a b x z:Int):Prop where
  inE:a≤n→n≤b→O.whyE w n=13∧O.whyL w n = []
  outE:¬ (a≤n∧n≤b)→O.whyE w n=0
  len:(O.whyL w n).length≤6
  nil:¬ (a≤n∧n≤b)→O.whyL w n = []→(z<n∨n<x)∧(n<a∨b=z)∧(b<n∨a=x)
  up:b<n→O.whyL w n≠[]→sayE O.rm O.ws ((O.whyL w n).map (ixE O.rooms)) (ixE H.ways w)=0∧sayV O.rm O.ws ((O.whyL w n).map (ixE O.rooms)) (ixE H.ways w)=b∧(H.endsV w).1∈(O.whyL w n).map (ixE O.rooms)
  down:n<a→O.whyL w n≠[]→sayE O.rm O.ws ((O.whyL w n).map (ixE O.rooms)) (ixE H.ways w)=0∧sayV O.rm O.ws ((O.whyL w n).map (ixE O.rooms)) (ixE H.ways w)=a∧(H.endsV w).2∈(O.whyL w n).map (ixE O.rooms)
theorem why_is {L:List Str} (hD:Done L) {w:Str} {l:Lane} (hm:Oo (after L).ways w=some l) (n:Int):WhyS (after L) (Jh L) w n ((after L).spLo l.pl) ((after L).spHi l.pl) l.lo l.hi:=by
 have hW:=hD.wf.1;have hF:=hD.fit;have hr:=hD.hr;obtain⟨hi,hx⟩:=hW.plM hm;have hB:=UW hW aA;have hrm:(after L).rm=((after L).rooms.length:Int):=rfl;rw[hrm] at hB;have hil:l.pl<(after L).ws.length:=by rw[Off.ws_len]; exact hi
 have ha:=JB hW hF hi;rw[hrm] at ha;have hg:(after L).ws.getD l.pl default=⟨l.fr,l.to,l.lo,l.hi⟩:=by rw[Off.ws_get hi,show(after L).ways.getD l.pl default=(w,l) by rw[dA,hx]; rfl]
 have hlane:=sp_lane hW hF hm;have e1:(after L).spLo l.pl=X3 (after L).ws l.pl:=if_pos (by rw[hrm]; exact ha);have e2:(after L).spHi l.pl=Ym (after L).ws l.pl:=if_pos (by rw[hrm]; exact ha);have hwix:ixE (Jh L).ways w=(l.pl:Int):=by
  have hnm:(Jh L).ways.getD l.pl []=w:=by
   rw[hr.ways,dA,dV,hx]; rfl
  have hnd:(Jh L).ways.Nodup:=by rw[hr.ways]; exact hW.nd
  have:=ixOf_at hnd (i:=l.pl) (by rw[hr.ways,dU]; exact hi);rwa [hnm] at this
 have hend:=ends_is hr hm;have hwe:(after L).whyE w n=if (after L).spLo l.pl≤n∧n≤(after L).spHi l.pl then 13 else 0:=by unfold Off.whyE; rw[hm]
 have hwl:(after L).whyL w n=if (after L).spLo l.pl≤n∧n≤(after L).spHi l.pl then [] else (after L).rn (Kq (after L).rm (after L).ws l.pl (decide ((after L).spHi l.pl<n))):=by unfold Off.whyL; rw[hm]
 rw[hrm] at hwl;have hr6:=hW.rooms;have hpw : 2 ^ (after L).rooms.length≤2 ^ 6:=fH aD hr6;have key:=fun g=>RP hB hF ha hil g
 have hall:∀ s,s<2 ^ (after L).rooms.length→∀ x∈O9 s 6,0≤x∧x<((after L).rooms.length:Int):=by
  intro s hs x hx;exact of_decide_eq_true (fI.1 (UP _ hr6 s hs) x hx)
 refine⟨fun h1 h2=>⟨by rw[hwe,if_pos ⟨h1,h2⟩],by rw[hwl,if_pos ⟨h1,h2⟩]⟩,fun h=>by rw[hwe,if_neg h],?_,?_,?_,?_⟩;rw[hwl];split;exact dT _;unfold Off.rn;rw[dU];rcases key (decide ((after L).spHi l.pl<n)) with ⟨h1,_⟩|⟨_,s,hs,_,h1⟩
 rw[h1]; exact dT _;rw[h1]; exact Xw _ _;intro h h0;rw[hwl,if_neg h] at h0;rcases key (decide ((after L).spHi l.pl<n)) with ⟨_,h2⟩|⟨h1,_⟩
 by_cases hg2:(after L).spHi l.pl<n;rw[decide_eq_true hg2] at h2;unfold XC YV at h2;rw[if_pos rfl,if_pos rfl,hg,←e2] at h2;dsimp only at h2;omega;rw[decide_eq_false hg2] at h2;unfold XC YV at h2;rw[if_neg aD,if_neg aD,hg,←e1] at h2;dsimp only at h2;omega;unfold Off.rn at h0;exact absurd (List.map_eq_nil_iff.1 h0) h1;intro h h0;have hno:¬ ((after L).spLo l.pl≤n∧n≤(after L).spHi l.pl):=by omega
 rw[hwl,if_neg hno,decide_eq_true h] at h0⊢;rcases key true with ⟨h1,_⟩|⟨_,s,hs,hp,h1⟩
 rw[h1] at h0; exact absurd rfl h0;rw[h1,rn_back hD.rnd (hall s hs),hwix,hrm,hend];unfold pB at hp;rw[if_pos rfl,dI,decide_eq_true_eq] at hp;have hc:Qy (after L).ws s l.pl=true:=by unfold Qy; rw[hp.1]; rfl
 obtain⟨q1,q2⟩:=Wz hB hil hs hc;refine⟨q1,by rw[q2,hp.2,e2],?_⟩;have hl:=hp.1;rw[hg] at hl;unfold lvs inS at hl;rw[dI] at hl;have hfr:=(hB.way l.pl hil);rw[hg] at hfr;have hf1:=hfr.f1;have:=UO s aA l.fr (by have h5:(l.fr:Int)<_:=hf1; omega) (by simpa using hl.1);exact this;intro h h0;have hno:¬ ((after L).spLo l.pl≤n∧n≤(after L).spHi l.pl):=by omega
 have hng:¬ (after L).spHi l.pl<n:=by omega
 rw[hwl,if_neg hno,decide_eq_false hng] at h0⊢;rcases key false with ⟨h1,_⟩|⟨_,s,hs,hp,h1⟩
 rw[h1] at h0; exact absurd rfl h0;rw[h1,rn_back hD.rnd (hall s hs),hwix,hrm,hend];unfold pB at hp;rw[if_neg aD,dI,decide_eq_true_eq] at hp;have hc:Qy (after L).ws s l.pl=true:=by unfold Qy; rw[hp.1,Bool.or_true]
 obtain⟨q1,q2⟩:=Wz hB hil hs hc;refine⟨q1,by rw[q2,hp.2,e1],?_⟩;have hl:=hp.1;rw[hg] at hl;unfold ens inS at hl;rw[dI] at hl;have hfr:=(hB.way l.pl hil);rw[hg] at hfr;have hf1:=hfr.t1;have:=UO s aA l.to (by have h5:(l.to:Int)<_:=hf1; omega) (by simpa using hl.2);exact this
end Go.Am
namespace Go.Am
structure Ren (g:Str→Str):Prop where
  inj:∀ a b,g a=g b→a=b
  nil:g [] = []
theorem Ren.iff {g:Str→Str} (h:Ren g) (a b:Str):g a=g b↔a=b:=⟨h.inj a b,fun e=>by rw[e]⟩
theorem Ren.mem {g:Str→Str} (h:Ren g) (a:Str) (l:List Str):g a∈l.map g↔a∈l:=by
 constructor;intro hm;obtain⟨b,hb,e⟩:=dR.1 hm;exact h.inj b a e ▸ hb;exact fun hm=>dR.2 ⟨a,hm,rfl⟩
def Yn (g:Str→Str) {α:Type} (l:List (Str × α)):List (Str × α):=l.map fun p=>(g p.1,p.2)
theorem mget_ren {g:Str→Str} (h:Ren g) {α:Type} (l:List (Str × α)) (w:Str):Oo (Yn g l) (g w)=Oo l w:=by
 induction l with
 | nil=>rfl
 | cons p l ih=>
  show Oo ((g p.1,p.2)::Yn g l) (g w)=_;rw[Oo,Oo];dsimp only;by_cases e:w=p.1;rw[if_pos e,if_pos (by rw[e])];rw[if_neg e,if_neg (fun e2=>e (h.inj _ _ e2))];exact ih
theorem modW_ren {g:Str→Str} (h:Ren g) (l:List (Str × Lane)) (w:Str) (f:Lane→Lane):K4 (Yn g l) (g w) f=Yn g (K4 l w f):=by
 unfold K4 Yn;rw[dN,dN];refine dX fun p _=>?_
 show(if g p.1=g w then (g p.1,f p.2) else (g p.1,p.2))=(g (if p.1=w then (p.1,f p.2) else p).1,(if p.1=w then (p.1,f p.2) else p).2);by_cases e:p.1=w;rw[if_pos e,if_pos (by rw[e])];rw[if_neg e,if_neg (fun e2=>e (h.inj _ _ e2))]
theorem Rn {g:Str→Str} (h:Ren g) (l:List Str) (a:Str):OW (l.map g) (g a)=OW l a:=by
 induction l with
 | nil=>rfl
 | cons b l ih=>
  rw[dQ,OW,OW,ih];by_cases e:a=b;rw[if_pos e,if_pos (by rw[e])];rw[if_neg e,if_neg (fun e2=>e (h.inj _ _ e2))]
def Off.ren (g:Str→Str) (O:Off):Off:=⟨O.rooms.map g,Yn g O.ways,O.packs.map fun p=>(p.1,(g p.2.1,p.2.2)),O.ever,O.claims.map g⟩
def Tell.ren (g : Str → Str) : Tell → Tell
  | .room r=>.room (g r)
  | .way w f t=>.way (g w) (g f) (g t)
  | .bound w n m=>.bound (g w) n m
  | .pack p w=>.pack p (g w)
  | .move p s=>.move p s
  | .claim w n=>.claim (g w) n
  | .free w=>.free (g w)
theorem UM (g:Str→Str) (O:Off):(O.ren g).ws=O.ws:=by
 unfold Off.ws Off.ren Yn;rw[dN]; rfl
theorem UL (g:Str→Str) (O:Off):(O.ren g).rm=O.rm:=by
 unfold Off.rm Off.ren;rw[dU]
theorem YE {g:Str→Str} (h:Ren g) (O:Off) (w:Str) (f:Lane→Lane):(O.ren g).mod (g w) f=(O.mod w f).ren g:=by
 unfold Off.mod Off.ren;dsimp only;rw[modW_ren h]
theorem Ww {g:Str→Str} (h:Ren g) (O:Off) (w:Str) (f:Lane→Lane) (l:Lane):(O.ren g).tries (g w) f l=O.tries w f l:=by
 unfold Off.tries;rw[YE h,UM,UL]
theorem Y2 (g:Str→Str) (O:Off) (i:Nat):(O.ren g).spLo i=O.spLo i:=by unfold Off.spLo; rw[UM,UL]
theorem Y1 (g:Str→Str) (O:Off) (i:Nat):(O.ren g).spHi i=O.spHi i:=by unfold Off.spHi; rw[UM,UL]
theorem Xl {g:Str→Str} (h:Ren g) (O:Off) (w:Str):Oo (O.ren g).ways (g w)=Oo O.ways w:=mget_ren h _ _
theorem UC (g:Str→Str) (l:List (Int × (Str × Int))) (p:Int):Oo (l.map fun p=>(p.1,(g p.2.1,p.2.2))) p=(Oo l p).map fun d=>(g d.1,d.2):=by
 induction l with
 | nil=>rfl
 | cons a l ih=>
  rw[dQ,Oo,Oo];dsimp only;split;rfl;exact ih
theorem mput_packs (g:Str→Str) (l:List (Int × (Str × Int))) (p:Int) (d:Str × Int):Ka (l.map fun p=>(p.1,(g p.2.1,p.2.2))) p (g d.1,d.2)=(Ka l p d).map fun p=>(p.1,(g p.2.1,p.2.2)):=by
 induction l with
 | nil=>rfl
 | cons a l ih=>
  rw[dQ,Ka,Ka];dsimp only;split;rfl;rw[dQ,ih]
theorem mdel_packs (g:Str→Str) (l:List (Int × (Str × Int))) (p:Int):Zr (l.map fun p=>(p.1,(g p.2.1,p.2.2))) p=(Zr l p).map fun p=>(p.1,(g p.2.1,p.2.2)):=by
 induction l with
 | nil=>rfl
 | cons a l ih=>
  rw[dQ,Zr,Zr];dsimp only;split;rfl;rw[dQ,ih]
theorem ren_wrong {g:Str→Str} (h:Ren g) (O:Off) (t:Tell):(O.ren g).wrong (t.ren g)=O.wrong t:=by
 cases t with
 | room r=>
  show(if g r∈O.rooms.map g then (6:Int) else if (O.rooms.map g).length=6 then 3 else 0)=if r∈O.rooms then 6 else if O.rooms.length=6 then 3 else 0
  rw[dU];simp only[h.mem]
 | way w f t=>
  show(if (Oo (O.ren g).ways (g w)).isSome then (6:Int) else if g f ∉ O.rooms.map g∨g t ∉ O.rooms.map g then 2 else if g f=g t then 13 else if (Yn g O.ways).length=12 then 3 else 0)=if (Oo O.ways w).isSome then 6 else if f ∉ O.rooms∨t ∉ O.rooms then 2 else if f=t then 13 else if O.ways.length=12 then 3 else 0
  rw[Xl h];simp only[h.mem,h.iff,Yn,dU]
 | bound w n m=>
  show(match Oo (O.ren g).ways (g w) with
   | none=>(2:Int)
   | some l=>if l.paid then 20 else (O.ren g).tries (g w) (chB n m) l)=match Oo O.ways w with
   | none=>2
   | some l=>if l.paid then 20 else O.tries w (chB n m) l
  rw[Xl h];simp only[Ww h]
 | pack p w=>
  show(if p∈O.ever then (6:Int) else match Oo (O.ren g).ways (g w) with
   | none=>2
   | some l=>if (O.packs.map fun p=>(p.1,(g p.2.1,p.2.2))).length=20 then 3 else if l.hi≤l.packs.length then 15 else (O.ren g).tries (g w) (chP p) l)=if p∈O.ever then 6 else match Oo O.ways w with
   | none=>2
   | some l=>if O.packs.length=20 then 3 else if l.hi≤l.packs.length then 15 else O.tries w (chP p) l
  rw[Xl h,dU];simp only[Ww h]
 | move p s=>
  show(match Oo (O.packs.map fun p=>(p.1,(g p.2.1,p.2.2))) p with
   | none=>(2:Int)
   | some d=>if (s=2∨s=0)∧d.2≠1 then 20 else if s=3∧d.2≠2∨s=1∧d.2≠3 then 21 else 0)=match Oo O.packs p with
   | none=>2
   | some d=>if (s=2∨s=0)∧d.2≠1 then 20 else if s=3∧d.2≠2∨s=1∧d.2≠3 then 21 else 0
  rw[UC]
  cases Oo O.packs p <;> rfl
 | claim w n=>
  show(match Oo (O.ren g).ways (g w) with
   | none=>(2:Int)
   | some l=>if l.paid then 20 else if n<(O.ren g).spLo l.pl∨(O.ren g).spHi l.pl<n then 14 else if (O.ren g).spLo l.pl<(O.ren g).spHi l.pl then 21 else 0)=match Oo O.ways w with
   | none=>2
   | some l=>if l.paid then 20 else if n<O.spLo l.pl∨O.spHi l.pl<n then 14 else if O.spLo l.pl<O.spHi l.pl then 21 else 0
  rw[Xl h];simp only[Y2,Y1]
 | free w=>
  show(match Oo (O.ren g).ways (g w) with
   | none=>(2:Int)
   | some l=>if l.paid then 20 else 0)=match Oo O.ways w with
   | none=>2
   | some l=>if l.paid then 20 else 0
  rw[Xl h]
theorem ren_tell {g:Str→Str} (h:Ren g) (O:Off) (t:Tell):(O.ren g).tell (t.ren g)=(O.tell t).ren g:=by
 cases t with
 | room r=>
  unfold Off.tell Tell.ren Off.ren;dsimp only;rw[dG]; rfl
 | way w f t=>
  unfold Off.tell Tell.ren Off.ren Yn;dsimp only;rw[dG,dU,Rn h,Rn h]; rfl
 | bound w n m=>exact YE h O w (chB n m)
 | pack p w=>
  show({(O.ren g).mod (g w) (chP p) with packs:=_,ever:=_}:Off)=_;rw[YE h];unfold Off.tell Off.ren;dsimp only;rw[dG]; rfl
 | move p s=>
  show(match Oo (O.packs.map fun p=>(p.1,(g p.2.1,p.2.2))) p with
   | none=>O.ren g
   | some d=>if s=0 then {(O.ren g).mod d.1 (fun l=>{l with packs:=l.packs.filter fun q=>!decide (q=p)}) with packs:=Zr (O.packs.map fun p=>(p.1,(g p.2.1,p.2.2))) p} else {O.ren g with packs:=Ka (O.packs.map fun p=>(p.1,(g p.2.1,p.2.2))) p (d.1,s)})=(match Oo O.packs p with
   | none=>O
   | some d=>if s=0 then {O.mod d.1 (fun l=>{l with packs:=l.packs.filter fun q=>!decide (q=p)}) with packs:=Zr O.packs p} else {O with packs:=Ka O.packs p (d.1,s)}:Off).ren g
  rw[UC]
  cases Oo O.packs p with
  | none=>rfl
  | some d=>
   dsimp only[Option.map_some];by_cases hs:s=0;rw[if_pos hs,if_pos hs,YE h,mdel_packs]; rfl;rw[if_neg hs,if_neg hs,mput_packs g O.packs p (d.1,s)]; rfl
 | claim w n=>
  show({(O.ren g).mod (g w) _ with claims:=_}:Off)=_;rw[YE h];unfold Off.tell Off.ren;dsimp only;rw[dG]; rfl
 | free w=>exact YE h O w _
theorem Wg {g:Str→Str} (h:Ren g) {f:Str→Str}:∀ {L:List Str},(∀ x∈L,Kv (f x)=(Kv x).ren g)→after (L.map f)=(after L).ren g:=by
 intro L hL;have key:∀ (L:List Str) (O:Off),(∀ x∈L,Kv (f x)=(Kv x).ren g)→(L.map f).foldl (fun o x=>o.tell (Kv x)) (O.ren g)=(L.foldl (fun o x=>o.tell (Kv x)) O).ren g:=by
  intro L
  induction L with
  | nil=>intro O _; rfl
  | cons x L ih=>
   intro O hx;rw[dQ,fV,fV,hx x fQ,ren_tell h];exact ih _ (fun y hy=>hx y (fJ _ hy))
 exact key L YT hL
theorem asked_ren {g:Str→Str} (h:Ren g) {f:Str→Str} {L:List Str} {x:Str} (hL:∀ x∈L,Kv (f x)=(Kv x).ren g) (hx:Kv (f x)=(Kv x).ren g) (h1:Ku x=0) (h2:Ku (f x)=0):O2 (L.map f) (f x)=O2 L x:=by
 unfold O2;dsimp only;rw[if_pos h1,if_pos h2,Wg h hL,hx,ren_wrong h,dU]
theorem ren_spn {g:Str→Str} (h:Ren g) (O:Off) (w:Str):(O.ren g).spn (g w)=O.spn w:=by
 unfold Off.spn;rw[Xl h];simp only[Y2,Y1]
theorem ren_whyE {g:Str→Str} (h:Ren g) (O:Off) (w:Str) (n:Int):(O.ren g).whyE (g w) n=O.whyE w n:=by
 unfold Off.whyE;rw[Xl h];simp only[Y2,Y1]
theorem ren_rn {g:Str→Str} (h:Ren g) (O:Off) (l:List Int):(O.ren g).rn l=(O.rn l).map g:=by
 unfold Off.rn;rw[dN];refine dX fun x _=>?_
 show(O.rooms.map g).getD x.toNat []=g (O.rooms.getD x.toNat []);rw[dA,dA,dV]
 cases O.rooms[x.toNat]? with
 | none=>exact h.nil.symm
 | some r=>rfl
theorem ren_whyL {g:Str→Str} (h:Ren g) (O:Off) (w:Str) (n:Int):(O.ren g).whyL (g w) n=(O.whyL w n).map g:=by
 unfold Off.whyL;rw[Xl h]
 cases Oo O.ways w with
 | none=>rfl
 | some l=>
  dsimp only;rw[Y2,Y1,UM,UL,ren_rn h];split;rfl;rfl
theorem ren_sureL (g:Str→Str) (O:Off):(O.ren g).sureL=O.sureL.map g:=by
 unfold Off.sureL Off.ren Yn;dsimp only;rw[List.filter_map,dN,dN];have e:((O.ren g).sureB ∘ fun p:Str × Lane=>(g p.1,p.2))=O.sureB:=by
  funext p;show decide ((O.ren g).spLo p.2.pl=(O.ren g).spHi p.2.pl)=_;rw[Y2,Y1]; rfl
 unfold Off.ren Yn at e;rw[e];rfl
theorem ren_toldN {g:Str→Str} (h:Ren g) (O:Off) (w:Str):(O.ren g).toldN (g w)=O.toldN w:=by
 unfold Off.toldN;rw[Xl h]
theorem ren_sum {g:Str→Str} (h:Ren g) (O:Off):(O.ren g).sum=O.sum:=by
 have key:∀ i,(O.ren g).sumTo i=O.sumTo i:=by
  intro i
  induction i with
  | zero=>rfl
  | succ i ih=>
   have e:(O.ren g).claims.getD i []=g (O.claims.getD i []):=by
    show(O.claims.map g).getD i []=_;rw[dA,dA,dV]
    cases O.claims[i]? with
    | none=>exact h.nil.symm
    | some r=>rfl
   rw[Off.sumTo,Off.sumTo,ih,e,ren_toldN h]
 unfold Off.sum;rw[show(O.ren g).claims.length=O.claims.length from dU _];exact key _
end Go.Am
namespace Go.Proofs
open Go.Shelf
def Tryz.lays241_ren:Go.Shelf.Ren:=⟨fun|241=>128|277=>168|n=>n,fun|70=>116|3=>3|0=>0|72=>118|37=>74|5=>5|n=>n,fun|n=>n⟩
theorem Tryz.lays241 : Go.Proofs.Lays.n241 Tryz.prog Tryz.lays241_ren := {
  mixed:=by kernel_rfl
  f241:=Tryz.func128.trans (congrArg some (by kernel_rfl))
  f277:=Tryz.func168.trans (congrArg some (by kernel_rfl))
  t0:=Tryz.underlying0
  a0:=Tryz.isAgg0
  z0:=Tryz.sizeOf0
  v0:=Tryz.zeroValue0
  t3:=Tryz.underlying3
  a3:=Tryz.isAgg3
  z3:=Tryz.sizeOf3
  v3:=Tryz.zeroValue3
  t37:=Tryz.underlying74
  a37:=Tryz.isAgg74
  z37:=Tryz.sizeOf74
  v37:=Tryz.zeroValue74
  t70:=Tryz.underlying116
  a70:=Tryz.isAgg116
  z70:=Tryz.sizeOf116
  v70:=Tryz.zeroValue116
  t72:=Tryz.underlying118
  a72:=Tryz.isAgg118
  z72:=Tryz.sizeOf118
  v72:=Tryz.zeroValue118}
theorem Tryz.Builder_Extra_241 : Builder.Extra Tryz.prog Tryz.lays241_ren := {
  sizeBuilder:=by kernel_rfl
  liesBuilder:=by kernel_rfl
  t5:=Tryz.underlying5
  a5:=Tryz.isAgg5
  z5:=Tryz.sizeOf5
  v5:=Tryz.zeroValue5
  infoByte:=by kernel_rfl
  cellsByte:=by kernel_rfl
  sizeByte:=by kernel_rfl
  neB5:=by decide}
open Go.RowKit in
theorem Tryz.Builder_grow_fresh (B b n : Nat) (w : World) (hB : B ≤ b) (hbk : w.heap[b]? = some (.cells #[.pointer (some ⟨b, 0, none⟩), .slice none 0 0] 118 (0, 0))) (hBw : B ≤ w.heap.size) (hn : n ≤ 281474976710656) :
    Calls Tryz.prog 128 #[.pointer (some ⟨b,0,none⟩),.int .i64 n] w fun e w'=>e = .returned (.tuple #[])∧(fK 118 5 B b (.pointer (some ⟨b,0,none⟩)) [] w'∧Below B w w'):=Any.Builder_grow_fresh Tryz.lays241 Tryz.Builder_Extra_241 B b n w hB hbk hBw hn
end Go.Proofs
namespace Go.Proofs
open Go.RowKit
open Go.Am (wd Str)
set_option maxHeartbeats 4000000 in
set_option maxRecDepth 1000000 in
theorem Tryz.grow91_k (B b n : Nat) (w : World) (hB : B ≤ b) (hbk : w.heap[b]? = some (.cells #[.pointer none, .slice none 0 0] 118 (0, 0))) (hBw : B ≤ w.heap.size) (hn : n ≤ 281474976710656) :
    Calls Tryz.prog 91 #[.pointer (some ⟨b,0,none⟩),.int .i64 n] w fun e w'=>e = .returned (.tuple #[])∧(fK 118 5 B b (.pointer (some ⟨b,0,none⟩)) [] w'∧Below B w w'):=by
 have hbk1:(w.setCell ⟨b,0,none⟩ (.pointer (some ⟨b,0,none⟩))).heap[b]? = some (.cells #[.pointer (some ⟨b,0,none⟩),.slice none 0 0] 118 (0,0)):=by
  simp[World.setCell,Array.getElem?_modify,hbk]
 have c1:(w.setCell ⟨b,0,none⟩ (.pointer (some ⟨b,0,none⟩))).cell? ⟨b,1,none⟩=some (.slice none 0 0):=by rw[fR hbk1]; rfl
 have hb1:Below B w (w.setCell ⟨b,0,none⟩ (.pointer (some ⟨b,0,none⟩))):=(Below.refl B w).setCell (p:=⟨b,0,none⟩) hB _;have mixed:=Tryz.lays241.mixed
 go_enter Tryz.func91,Tryz.ntmps91
 have hU:fK 118 5 B b (.pointer (some ⟨b,0,none⟩)) [] (w.setCell ⟨b,0,none⟩ (.pointer (some ⟨b,0,none⟩))):=⟨hB,.slice none 0 0,hbk1,World.ownsRow_nil _ _ _ _,by simp[Value.ownBlock]⟩;have c1':(w.setCell ⟨b,0,none⟩ (.pointer (some ⟨b,0,none⟩))).drew.cell? ⟨b,1,none⟩=some (.slice none 0 0):=c1
 go_wp2_with (go_at_call 113; refine(Tryz.check_fresh b w (by rw[fR hbk]; rfl) (by simp[World.shape?,hbk]) (Lib.frozen_of_heap hbk 0)).mono ?_; rintro e w' ⟨rfl,rfl⟩)
 go_region_o
 all_goals go_wp2_with (go_at_call 128; refine(Tryz.Builder_grow_fresh B b n (w.setCell ⟨b,0,none⟩ (.pointer (some ⟨b,0,none⟩))).drew hB hbk1 (by simpa [World.setCell,World.drew,-World.drew_eq] using hBw) hn).mono ?_; rintro e w' ⟨rfl,h1,h2⟩)
 all_goals first
   | (go_end0; exact⟨rfl,h1,hb1.drew.trans h2⟩)
   | (go_end0; exact⟨rfl,hU.drew,hb1.drew⟩)
end Go.Proofs
namespace Go.Am
def jnT (ws : List Str) : Nat → Str
  | 0=>ws.getD 0 []
  | k+1=>jnT ws k ++ [32] ++ ws.getD (k+1) []
def lenW (ws : List Str) : Nat → Nat
  | 0=>0
  | k+1=>lenW ws k+(ws.getD k []).length
theorem lenW_le {ws:List Str} (hl:∀ x∈ws,x.length≤100):∀ k,k≤ws.length→lenW ws k≤100*k:=by
 intro k
 induction k with
 | zero=>intro _; exact dF _
 | succ k ih=>
  intro hk;have h1:=ih aA;have h2:=hl _ (getD_mem (l:=ws) (i:=k) (d:=[]) aA);rw[lenW]; omega
theorem jnT_le {ws:List Str} (hl:∀ x∈ws,x.length≤100):∀ k,k<ws.length→(jnT ws k).length≤101*(k+1):=by
 intro k
 induction k with
 | zero=>intro hk; have:=hl _ (getD_mem (l:=ws) (i:=0) (d:=[]) hk); rw[jnT]; omega
 | succ k ih=>
  intro hk;have h1:=ih aA;have h2:=hl _ (getD_mem (l:=ws) (i:=k+1) (d:=[]) hk);rw[jnT];simp only[dO,dE];omega
end Go.Am
namespace Go.Proofs
open Go.RowKit
open Go.Am (wd Str jnT lenW)
theorem Tryz.hidJ {p:Prop} (h:p):Hid p:=h
set_option maxHeartbeats 4000000 in
set_option maxRecDepth 1000000 in
theorem Tryz.join_walk (ws : List Str) (n : Nat) (hn : ws.length = n) (h24 : n = 2 ∨ n = 3 ∨ n = 4) (hl : ∀ x ∈ ws, x.length ≤ 100) (w : World) (g o c : Nat) (hcap : n ≤ c) (hg : g < w.heap.size)
    (hs:∀ i,i<n→w.cell? ⟨g,o+i,none⟩=some (.string (wd (ws.getD i [])))) :
    Calls Tryz.prog 44 #[.slice (some ⟨g,o,none⟩) n c,.string (wd [32])] w fun e w'=>e = .returned (.string (wd (jnT ws (n - 1))))∧Below w.heap.size w w':=by
 have hsz:(wd [32]).size=1:=rfl;have hll:=Go.Am.lenW_le hl;have hjl:=Go.Am.jnT_le hl;have hm:∀ i,i<n→(ws.getD i []).length≤100:=fun i hi=>hl _ (Go.Am.getD_mem (by omega))
 rcases h24 with rfl|rfl|rfl
 ·go_enter Tryz.func44,Tryz.ntmps44
  go_wp2_with fail
  go_loop [5,41] (fun m i=>∃ k:Nat,k≤2∧i = .int .i64 k∧m = .int .i64 ((1+lenW ws k:Nat):Int)) (fun _ i=>2 - (intOf i).toNat)
  case atStart=>exact⟨0,dT _,rfl,rfl⟩
  case round=>
   obtain⟨k,hk,rfl,rfl⟩:=hrel;have hb1:=hll k (by omega);by_cases hkn:k<2
   ·have hc:=hs k hkn;have hx1:=hm k hkn;have e1:lenW ws (k+1)=lenW ws k+(ws.getD k []).length:=rfl;generalize ws.getD k []=x at hc hx1 e1;have hxs:(wd x).size=x.length:=Go.Am.wd_size x;have E1:=Tryz.hidJ e1;clear e1 hll hjl hs hm
    go_wp2
    refine⟨⟨k+1,by omega,by go_num,?_⟩,by simp[intOf]; omega⟩;rw[E1.out];refine congrArg _ ?_;omega
   ·have hke:k=2:=by omega
    subst hke;generalize hT : 1+lenW ws 2=T
    go_wp2_with fail
    refine(Tryz.grow91_k w.heap.size w.heap.size T _ (dF _) (heap_alloc_new w _) (by simp) (by omega)).mono ?_;rintro e w1 ⟨rfl,h1,hb2⟩;have hW1:Below w.heap.size w w1:=((Below.refl w.heap.size w).alloc (dF _) _).trans hb2;have hc0:w1.cell? ⟨g,o,none⟩=some (.string (wd (ws.getD 0 []))):=by
     rw[hW1.cell (p:=⟨g,o,none⟩) hg];exact hs 0 (by omega)
    have H1:=Tryz.hidJ (Lib.IsBuilderF.of (fE h1:fL 118 5 w.heap.size w.heap.size [] w1));have HW1:=Tryz.hidJ hW1;have hBw1:w.heap.size≤w1.heap.size:=hW1.size;have HS:=Tryz.hidJ hs;have HJ:=Tryz.hidJ hjl;have HM:=Tryz.hidJ hm;have hm0:=hm 0 (by omega);clear h1 hb2 hW1 hs hjl hm hll hl;have H0:jnT ws 0=ws.getD 0 []:=rfl;have H0':=Tryz.hidJ H0;clear H0;generalize ws.getD 0 []=x0 at hc0 hm0 H0'
    go_wp2_with fail
    refine(Tryz.write_k w.heap.size w.heap.size [] (wd x0) w1 H1.out (by rw[Go.Am.wd_size]; simp only[fO]; omega) hBw1).mono ?_;rintro e w2 ⟨rfl,h3,hb3,_⟩;have H2:=Tryz.hidJ (show dD 118 5 w.heap.size w.heap.size (dL (jnT ws 0)) w2 by rw[H0'.out,←Tryz.strCells_wd]; exact fE h3);have Hb2:=Tryz.hidJ (HW1.out.trans hb3);clear h3 hb3
    go_wp2_with fail
    go_loopw [65] (fun i wr=>∃ k:Nat,k≤1∧i = .int .i64 k∧Hid (dD 118 5 w.heap.size w.heap.size (dL (jnT ws k)) wr)∧Hid (Below w.heap.size w wr)) (fun i _=>1 - (intOf i).toNat)
    case atStart=>exact⟨0,dT _,rfl,H2,Hb2⟩
    case round=>
     obtain⟨k,hk',rfl,HB,HW⟩:=hrel;by_cases hkr:k<1
     ·have hcy:wr.cell? ⟨g,o+1+k,none⟩=some (.string (wd (ws.getD (k+1) []))):=by
       rw[HW.out.cell (p:=⟨g,o+1+k,none⟩) hg,show o+1+k=o+(k+1) by omega];exact HS.out (k+1) (by omega)
      have hBw:w.heap.size≤wr.heap.size:=HW.out.size;have hml:=HM.out (k+1) (by omega);have hjk:=HJ.out k (by omega);have hnx:jnT ws (k+1)=jnT ws k ++ [32] ++ ws.getD (k+1) []:=rfl;have HN:=Tryz.hidJ hnx;clear hnx;generalize ws.getD (k+1) []=y at hcy hml HN
      go_wp2_with fail
      refine(Tryz.write_k w.heap.size w.heap.size _ (wd [32]) wr HB.out (by rw[dJ,Go.Am.wd_size]; simp only[dE]; omega) hBw).mono ?_;rintro e w3 ⟨rfl,h4,hb4,_⟩;have hBw3:w.heap.size≤w3.heap.size:=fD hBw hb4.size;have hcy3:w3.cell? ⟨g,o+1+k,none⟩=some (.string (wd y)):=by rw[hb4.cell (p:=⟨g,o+1+k,none⟩) hg]; exact hcy
      have H3:=Tryz.hidJ h4;have Hb3:=Tryz.hidJ hb4;clear h4 hb4
      go_wp2_with fail
      refine(Tryz.write_k w.heap.size w.heap.size _ (wd y) w3 (fE H3.out) (by rw[dO,dJ,fU,Go.Am.wd_size,Go.Am.wd_size]; simp only[dE]; omega) hBw3).mono ?_;rintro e w4 ⟨rfl,h5,hb5,_⟩;have H4:=Tryz.hidJ (show dD 118 5 w.heap.size w.heap.size (dL (jnT ws (k+1))) w4 by rw[HN.out,dK,dK,←Tryz.strCells_wd [32],←Tryz.strCells_wd y]; exact fE h5);have Hb4:=Tryz.hidJ ((HW.out.trans Hb3.out).trans hb5);clear h5 hb5
      go_wp2
      exact⟨⟨k+1,by omega,by go_num,H4,Hb4⟩,by simp[intOf]; omega⟩
     ·have hke:k=1:=by omega
      subst hke;have hBw:w.heap.size≤wr.heap.size:=HW.out.size
      go_wp2_with fail
      refine(Tryz.Builder_String_any_k w.heap.size w.heap.size _ wr HB.out hBw).mono ?_;rintro e w5 ⟨rfl,_,hb6,_⟩;have Hb5:=Tryz.hidJ (HW.out.trans hb6);clear hb6
      go_wp2
      go_ret
      exact⟨rfl,Hb5.out⟩
 ·go_enter Tryz.func44,Tryz.ntmps44
  go_wp2_with fail
  go_loop [5,41] (fun m i=>∃ k:Nat,k≤3∧i = .int .i64 k∧m = .int .i64 ((2+lenW ws k:Nat):Int)) (fun _ i=>3 - (intOf i).toNat)
  case atStart=>exact⟨0,dT _,rfl,rfl⟩
  case round=>
   obtain⟨k,hk,rfl,rfl⟩:=hrel;have hb1:=hll k (by omega);by_cases hkn:k<3
   ·have hc:=hs k hkn;have hx1:=hm k hkn;have e1:lenW ws (k+1)=lenW ws k+(ws.getD k []).length:=rfl;generalize ws.getD k []=x at hc hx1 e1;have hxs:(wd x).size=x.length:=Go.Am.wd_size x;have E1:=Tryz.hidJ e1;clear e1 hll hjl hs hm
    go_wp2
    refine⟨⟨k+1,by omega,by go_num,?_⟩,by simp[intOf]; omega⟩;rw[E1.out];refine congrArg _ ?_;omega
   ·have hke:k=3:=by omega
    subst hke;generalize hT : 2+lenW ws 3=T
    go_wp2_with fail
    refine(Tryz.grow91_k w.heap.size w.heap.size T _ (dF _) (heap_alloc_new w _) (by simp) (by omega)).mono ?_;rintro e w1 ⟨rfl,h1,hb2⟩;have hW1:Below w.heap.size w w1:=((Below.refl w.heap.size w).alloc (dF _) _).trans hb2;have hc0:w1.cell? ⟨g,o,none⟩=some (.string (wd (ws.getD 0 []))):=by
     rw[hW1.cell (p:=⟨g,o,none⟩) hg];exact hs 0 (by omega)
    have H1:=Tryz.hidJ (Lib.IsBuilderF.of (fE h1:fL 118 5 w.heap.size w.heap.size [] w1));have HW1:=Tryz.hidJ hW1;have hBw1:w.heap.size≤w1.heap.size:=hW1.size;have HS:=Tryz.hidJ hs;have HJ:=Tryz.hidJ hjl;have HM:=Tryz.hidJ hm;have hm0:=hm 0 (by omega);clear h1 hb2 hW1 hs hjl hm hll hl;have H0:jnT ws 0=ws.getD 0 []:=rfl;have H0':=Tryz.hidJ H0;clear H0;generalize ws.getD 0 []=x0 at hc0 hm0 H0'
    go_wp2_with fail
    refine(Tryz.write_k w.heap.size w.heap.size [] (wd x0) w1 H1.out (by rw[Go.Am.wd_size]; simp only[fO]; omega) hBw1).mono ?_;rintro e w2 ⟨rfl,h3,hb3,_⟩;have H2:=Tryz.hidJ (show dD 118 5 w.heap.size w.heap.size (dL (jnT ws 0)) w2 by rw[H0'.out,←Tryz.strCells_wd]; exact fE h3);have Hb2:=Tryz.hidJ (HW1.out.trans hb3);clear h3 hb3
    go_wp2_with fail
    go_loopw [65] (fun i wr=>∃ k:Nat,k≤2∧i = .int .i64 k∧Hid (dD 118 5 w.heap.size w.heap.size (dL (jnT ws k)) wr)∧Hid (Below w.heap.size w wr)) (fun i _=>2 - (intOf i).toNat)
    case atStart=>exact⟨0,dT _,rfl,H2,Hb2⟩
    case round=>
     obtain⟨k,hk',rfl,HB,HW⟩:=hrel;by_cases hkr:k<2
     ·have hcy:wr.cell? ⟨g,o+1+k,none⟩=some (.string (wd (ws.getD (k+1) []))):=by
       rw[HW.out.cell (p:=⟨g,o+1+k,none⟩) hg,show o+1+k=o+(k+1) by omega];exact HS.out (k+1) (by omega)
      have hBw:w.heap.size≤wr.heap.size:=HW.out.size;have hml:=HM.out (k+1) (by omega);have hjk:=HJ.out k (by omega);have hnx:jnT ws (k+1)=jnT ws k ++ [32] ++ ws.getD (k+1) []:=rfl;have HN:=Tryz.hidJ hnx;clear hnx;generalize ws.getD (k+1) []=y at hcy hml HN
      go_wp2_with fail
      refine(Tryz.write_k w.heap.size w.heap.size _ (wd [32]) wr HB.out (by rw[dJ,Go.Am.wd_size]; simp only[dE]; omega) hBw).mono ?_;rintro e w3 ⟨rfl,h4,hb4,_⟩;have hBw3:w.heap.size≤w3.heap.size:=fD hBw hb4.size;have hcy3:w3.cell? ⟨g,o+1+k,none⟩=some (.string (wd y)):=by rw[hb4.cell (p:=⟨g,o+1+k,none⟩) hg]; exact hcy
      have H3:=Tryz.hidJ h4;have Hb3:=Tryz.hidJ hb4;clear h4 hb4
      go_wp2_with fail
      refine(Tryz.write_k w.heap.size w.heap.size _ (wd y) w3 (fE H3.out) (by rw[dO,dJ,fU,Go.Am.wd_size,Go.Am.wd_size]; simp only[dE]; omega) hBw3).mono ?_;rintro e w4 ⟨rfl,h5,hb5,_⟩;have H4:=Tryz.hidJ (show dD 118 5 w.heap.size w.heap.size (dL (jnT ws (k+1))) w4 by rw[HN.out,dK,dK,←Tryz.strCells_wd [32],←Tryz.strCells_wd y]; exact fE h5);have Hb4:=Tryz.hidJ ((HW.out.trans Hb3.out).trans hb5);clear h5 hb5
      go_wp2
      exact⟨⟨k+1,by omega,by go_num,H4,Hb4⟩,by simp[intOf]; omega⟩
     ·have hke:k=2:=by omega
      subst hke;have hBw:w.heap.size≤wr.heap.size:=HW.out.size
      go_wp2_with fail
      refine(Tryz.Builder_String_any_k w.heap.size w.heap.size _ wr HB.out hBw).mono ?_;rintro e w5 ⟨rfl,_,hb6,_⟩;have Hb5:=Tryz.hidJ (HW.out.trans hb6);clear hb6
      go_wp2
      go_ret
      exact⟨rfl,Hb5.out⟩
 ·go_enter Tryz.func44,Tryz.ntmps44
  go_wp2_with fail
  go_loop [5,41] (fun m i=>∃ k:Nat,k≤4∧i = .int .i64 k∧m = .int .i64 ((3+lenW ws k:Nat):Int)) (fun _ i=>4 - (intOf i).toNat)
  case atStart=>exact⟨0,dT _,rfl,rfl⟩
  case round=>
   obtain⟨k,hk,rfl,rfl⟩:=hrel;have hb1:=hll k (by omega);by_cases hkn:k<4
   ·have hc:=hs k hkn;have hx1:=hm k hkn;have e1:lenW ws (k+1)=lenW ws k+(ws.getD k []).length:=rfl;generalize ws.getD k []=x at hc hx1 e1;have hxs:(wd x).size=x.length:=Go.Am.wd_size x;have E1:=Tryz.hidJ e1;clear e1 hll hjl hs hm
    go_wp2
    refine⟨⟨k+1,by omega,by go_num,?_⟩,by simp[intOf]; omega⟩;rw[E1.out];refine congrArg _ ?_;omega
   ·have hke:k=4:=by omega
    subst hke;generalize hT : 3+lenW ws 4=T
    go_wp2_with fail
    refine(Tryz.grow91_k w.heap.size w.heap.size T _ (dF _) (heap_alloc_new w _) (by simp) (by omega)).mono ?_;rintro e w1 ⟨rfl,h1,hb2⟩;have hW1:Below w.heap.size w w1:=((Below.refl w.heap.size w).alloc (dF _) _).trans hb2;have hc0:w1.cell? ⟨g,o,none⟩=some (.string (wd (ws.getD 0 []))):=by
     rw[hW1.cell (p:=⟨g,o,none⟩) hg];exact hs 0 (by omega)
    have H1:=Tryz.hidJ (Lib.IsBuilderF.of (fE h1:fL 118 5 w.heap.size w.heap.size [] w1));have HW1:=Tryz.hidJ hW1;have hBw1:w.heap.size≤w1.heap.size:=hW1.size;have HS:=Tryz.hidJ hs;have HJ:=Tryz.hidJ hjl;have HM:=Tryz.hidJ hm;have hm0:=hm 0 (by omega);clear h1 hb2 hW1 hs hjl hm hll hl;have H0:jnT ws 0=ws.getD 0 []:=rfl;have H0':=Tryz.hidJ H0;clear H0;generalize ws.getD 0 []=x0 at hc0 hm0 H0'
    go_wp2_with fail
    refine(Tryz.write_k w.heap.size w.heap.size [] (wd x0) w1 H1.out (by rw[Go.Am.wd_size]; simp only[fO]; omega) hBw1).mono ?_;rintro e w2 ⟨rfl,h3,hb3,_⟩;have H2:=Tryz.hidJ (show dD 118 5 w.heap.size w.heap.size (dL (jnT ws 0)) w2 by rw[H0'.out,←Tryz.strCells_wd]; exact fE h3);have Hb2:=Tryz.hidJ (HW1.out.trans hb3);clear h3 hb3
    go_wp2_with fail
    go_loopw [65] (fun i wr=>∃ k:Nat,k≤3∧i = .int .i64 k∧Hid (dD 118 5 w.heap.size w.heap.size (dL (jnT ws k)) wr)∧Hid (Below w.heap.size w wr)) (fun i _=>3 - (intOf i).toNat)
    case atStart=>exact⟨0,dT _,rfl,H2,Hb2⟩
    case round=>
     obtain⟨k,hk',rfl,HB,HW⟩:=hrel;by_cases hkr:k<3
     ·have hcy:wr.cell? ⟨g,o+1+k,none⟩=some (.string (wd (ws.getD (k+1) []))):=by
       rw[HW.out.cell (p:=⟨g,o+1+k,none⟩) hg,show o+1+k=o+(k+1) by omega];exact HS.out (k+1) (by omega)
      have hBw:w.heap.size≤wr.heap.size:=HW.out.size;have hml:=HM.out (k+1) (by omega);have hjk:=HJ.out k (by omega);have hnx:jnT ws (k+1)=jnT ws k ++ [32] ++ ws.getD (k+1) []:=rfl;have HN:=Tryz.hidJ hnx;clear hnx;generalize ws.getD (k+1) []=y at hcy hml HN
      go_wp2_with fail
      refine(Tryz.write_k w.heap.size w.heap.size _ (wd [32]) wr HB.out (by rw[dJ,Go.Am.wd_size]; simp only[dE]; omega) hBw).mono ?_;rintro e w3 ⟨rfl,h4,hb4,_⟩;have hBw3:w.heap.size≤w3.heap.size:=fD hBw hb4.size;have hcy3:w3.cell? ⟨g,o+1+k,none⟩=some (.string (wd y)):=by rw[hb4.cell (p:=⟨g,o+1+k,none⟩) hg]; exact hcy
      have H3:=Tryz.hidJ h4;have Hb3:=Tryz.hidJ hb4;clear h4 hb4
      go_wp2_with fail
      refine(Tryz.write_k w.heap.size w.heap.size _ (wd y) w3 (fE H3.out) (by rw[dO,dJ,fU,Go.Am.wd_size,Go.Am.wd_size]; simp only[dE]; omega) hBw3).mono ?_;rintro e w4 ⟨rfl,h5,hb5,_⟩;have H4:=Tryz.hidJ (show dD 118 5 w.heap.size w.heap.size (dL (jnT ws (k+1))) w4 by rw[HN.out,dK,dK,←Tryz.strCells_wd [32],←Tryz.strCells_wd y]; exact fE h5);have Hb4:=Tryz.hidJ ((HW.out.trans Hb3.out).trans hb5);clear h5 hb5
      go_wp2
      exact⟨⟨k+1,by omega,by go_num,H4,Hb4⟩,by simp[intOf]; omega⟩
     ·have hke:k=3:=by omega
      subst hke;have hBw:w.heap.size≤wr.heap.size:=HW.out.size
      go_wp2_with fail
      refine(Tryz.Builder_String_any_k w.heap.size w.heap.size _ wr HB.out hBw).mono ?_;rintro e w5 ⟨rfl,_,hb6,_⟩;have Hb5:=Tryz.hidJ (HW.out.trans hb6);clear hb6
      go_wp2
      go_ret
      exact⟨rfl,Hb5.out⟩
end Go.Proofs
namespace Go.Am
theorem Rd.slcCap {φ : Emb} {h : AHeap} {w : World} {v : AV} {xs : List AV} {cv : Value} (r : HRel φ h w) (hr : Rd h v 1 xs) (hv : VRel φ v cv) (hne : xs ≠ []) :
    ∃ k o c,cv = .slice (some ⟨k,o,none⟩) xs.length c∧xs.length≤c∧∀ (j:Nat) (x:AV),xs[j]? = some x→∃ u,w.cell? ⟨k,o+j,none⟩=some u∧VRel φ x u:=by
 obtain⟨ao,k,o,c,rfl,h1,h2⟩:=Rd.slcRel r hr hv;have:=h1 hne;subst this;refine⟨k,o,c,rfl,?_,h2⟩;rcases hr with ⟨rfl,_⟩|⟨b',o',F,p,cs,h3,_⟩|⟨b',F,x,_,h0,_⟩
 cases hv;rcases h3 with ⟨n,full,rfl,_,_⟩|⟨h0,_⟩
 cases hv with|slc _ _ _ _ _ a c hnc hc hf hadr=>exact hnc
 cases h0;cases h0
theorem cell_lt {w:World} {k o:Nat} {v:Value} (hc:w.cell? ⟨k,o,none⟩=some v):k<w.heap.size:=by
 rcases Nat.lt_or_ge k w.heap.size with h'|h'
 exact h';simp[World.cell?,Array.getElem?_eq_none h'] at hc
theorem join_c {h:AHeap} {v:AV} {ws:List Str} (hv:WRow h v ws) (h24:ws.length=2∨ws.length=3∨ws.length=4) (hl:∀ x∈ws,x.length≤100):ACalls Go.Proofs.Tryz.prog 44 [v,.str (wd [32])] h (fun q h'=>q = .str (wd (jnT ws (ws.length - 1)))∧h=h'):=by
 refine⟨_,_,Ev.of_below ⟨_,Go.Proofs.Tryz.func44,by decide,rfl⟩ ?_,rfl,rfl⟩;intro φ w cs rr ha;obtain⟨cv,cb,rfl⟩:∃ cv cb,cs = [cv,cb]:=by
  match cs,ha.1 with
  | [a,b],_=>exact⟨a,b,rfl⟩
 have hv1:=ha.2 0 _ _ rfl rfl;have hv2:=ha.2 1 _ _ rfl rfl;cases hv2;have hwl:(wcs ws).length=ws.length:=by simp[wcs]
 obtain⟨k,o,c,rfl,hcap,hs⟩:=Rd.slcCap rr hv hv1 (by intro e; rw[e] at hwl; simp at hwl; omega);rw[hwl] at hcap⊢;have hc:∀ i,i<ws.length→w.cell? ⟨k,o+i,none⟩=some (.string (wd (ws.getD i []))):=by
  intro i hi;obtain⟨u,h1,h2⟩:=hs i (.str (wd (ws.getD i []))) (by
   unfold wcs;rw[dV,dA,fA hi]; rfl)
  cases h2;exact h1
 refine(Go.Proofs.Tryz.join_walk ws ws.length rfl h24 hl w k o c hcap (cell_lt (hc 0 aA)) hc).mono ?_;rintro e w' ⟨rfl,hB⟩;exact⟨_,rfl,.str _,hB⟩
end Go.Am
namespace Go.Am
def rooms2:List Str:=[[111,102,102,105,99,101],[119,111,114,107,115],[115,116,111,114,101]]
def ways2:List Str:=[[97,100,97],[98,101,97],[99,105,97],[100,101,97],[101,118,97]]
def nm2:List (Str × Str):=[([118,97,117,108,116],[99,101,108,108,97,114]),([116,97,98,108,101],[100,101,115,107])]
def nmR (n k:Nat):List (Str × Str):=(fT k).map fun k=>(roomsL.getD k [],rooms2.getD ((k+n) % 3) [])
def nmW (n k:Nat):List (Str × Str):=(fT k).map fun k=>(waysL.getD k [],ways2.getD ((k+n) % 5) [])
def nmT (n:Nat):List (Str × Str):=nm2 ++ nmR n 3 ++ nmW n 5
theorem U9 (n:Nat):nmT n=nmT (n % 15):=by
 have h3:∀ k,(k+n) % 3=(k+n % 15) % 3:=fun k=>by omega
 have h5:∀ k,(k+n) % 5=(k+n % 15) % 5:=fun k=>by omega
 unfold nmT nmR nmW;simp only[h3,h5]
def gN (T:List (Str × Str)) (s:Str):Str:=match Oo T s with
  | some b=>b
  | none=>match Oo (T.map fun p=>(p.2,p.1)) s with
    | some a=>a
    | none=>s
def NmOk (T:List (Str × Str)):Bool:=T.all fun p=>decide (Oo (T.map fun p=>(p.2,p.1)) p.2=some p.1) && (Oo T p.2).isNone && decide (Oo T p.1=some p.2) && (Oo (T.map fun p=>(p.2,p.1)) p.1).isNone && decide (p.1≠[]) && decide (p.2≠[])
theorem nmT_ok15:∀ m,m<15→NmOk (nmT m)=true:=by decide +kernel
theorem UE (n:Nat):NmOk (nmT n)=true:=by rw[U9]; exact nmT_ok15 _ (dY _ aD)
theorem JF {κ ν:Type} [DecidableEq κ] {l:List (κ × ν)} {k : κ} {v : ν} (h:Oo l k=some v):(k,v)∈l:=by
 induction l with
 | nil=>cases h
 | cons p l ih=>
  rw[Oo] at h;split at h;rename_i e;cases h;rw[e];exact fQ;exact fJ _ (ih h)
theorem gN_inv {T:List (Str × Str)} (hT:NmOk T=true) (s:Str):gN T (gN T s)=s:=by
 have hT:=fI.1 hT
 cases h1:Oo T s with
 | some b=>
  have hb:=hT _ (JF h1);simp only[dI,decide_eq_true_eq,fC] at hb;obtain⟨⟨⟨⟨⟨q1,q2⟩,_⟩,_⟩,_⟩,_⟩:=hb;have e:gN T s=b:=by unfold gN; rw[h1]
  rw[e];unfold gN;rw[q2];dsimp only;rw[q1]
 | none=>
  cases h2:Oo (T.map fun p=>(p.2,p.1)) s with
  | some a=>
   obtain⟨p,hp,e1⟩:=dR.1 (JF h2);have hb:=hT _ hp;simp only[dI,decide_eq_true_eq,fC] at hb;obtain⟨⟨⟨⟨⟨q1,q2⟩,q3⟩,_⟩,_⟩,_⟩:=hb;cases e1;have e:gN T p.2=p.1:=by unfold gN; rw[h1,h2]
   rw[e];unfold gN;rw[q3]
  | none=>
   have e:gN T s=s:=by unfold gN; rw[h1,h2]
   rw[e,e]
theorem gN_nil {T:List (Str × Str)} (hT:NmOk T=true):gN T [] = []:=by
 have hT:=fI.1 hT;unfold gN
 cases h1:Oo T ([]:Str) with
 | some b=>
  have hb:=hT _ (JF h1);simp at hb
 | none=>
  cases h2:Oo (T.map fun p=>(p.2,p.1)) ([]:Str) with
  | some a=>
   obtain⟨p,hp,e1⟩:=dR.1 (JF h2);have hb:=hT _ hp;simp only[Prod.mk.injEq] at e1;simp[e1.1] at hb
  | none=>rfl
theorem gN_ren (n:Nat):Ren (gN (nmT n)):=⟨fun a b e=>by rw[←gN_inv (UE n) a,e,gN_inv (UE n)],gN_nil (UE n)⟩
def rnW (T:List (Str × Str)) (W:List Str):List Str:=W.take 1 ++ (W.drop 1).map fun w=>(Oo T w).getD w
def rnL (T:List (Str × Str)) (x:Str):Str:=jnT (rnW T (OG 32 x)) ((OG 32 x).length - 1)
def tEqB : Tell → Tell → Bool
  | .room r,.room r'=>decide (r=r')
  | .way w f t,.way w' f' t'=>decide (w=w') && decide (f=f') && decide (t=t')
  | .bound w n m,.bound w' n' m'=>decide (w=w') && decide (n=n') && decide (m=m')
  | .pack p w,.pack p' w'=>decide (p=p') && decide (w=w')
  | .move p s,.move p' s'=>decide (p=p') && decide (s=s')
  | .claim w n,.claim w' n'=>decide (w=w') && decide (n=n')
  | .free w,.free w'=>decide (w=w')
  | _,_=>false
theorem tEqB_eq {a b:Tell} (h:tEqB a b=true):a=b:=by
 cases a <;> cases b <;> simp only[tEqB,dI,decide_eq_true_eq,fN] at h <;> simp only[Tell.room.injEq,Tell.way.injEq,Tell.bound.injEq,Tell.pack.injEq,Tell.move.injEq,Tell.claim.injEq,Tell.free.injEq] <;> first|exact h|exact⟨h.1.1,h.1.2,h.2⟩
def RnB (T:List (Str × Str)) (x:Str):Bool:=decide (Ku (rnL T x)=0) && tEqB (Kv (rnL T x)) ((Kv x).ren (gN T)) && decide (2≤(OG 32 x).length) && decide ((OG 32 x).length≤4) && (rnW T (OG 32 x)).all (fun w=>decide (w.length≤12)) && decide ((rnL T x).length≤60)
theorem rn1:∀ m,m<15→∀ b,b<5→∀ c,c<10→RnB (nmT m) ([108,101,97,115,116,32] ++ waysL.getD b [] ++ [32] ++ dM ((c:Nat):Int))=true:=by decide +kernel
theorem rn2:∀ m,m<15→∀ b,b<5→∀ c,c<10→RnB (nmT m) ([109,111,115,116,32] ++ waysL.getD b [] ++ [32] ++ dM ((c:Nat):Int))=true:=by decide +kernel
theorem rn3:∀ m,m<15→∀ b,b<5→∀ c,c<5→RnB (nmT m) ([112,97,99,107,32] ++ dM ((1+c:Nat):Int) ++ [32] ++ waysL.getD b [])=true:=by decide +kernel
theorem rn4:∀ m,m<15→∀ d,d<2→∀ c,c<5→RnB (nmT m) ([[115,101,97,108,32],[98,117,114,110,32]].getD d [] ++ dM ((1+c:Nat):Int))=true:=by decide +kernel
theorem rn5:∀ m,m<15→∀ d,d<2→∀ c,c<5→RnB (nmT m) ([[100,101,97,108,32],[98,97,99,107,32]].getD d [] ++ dM ((1+c:Nat):Int))=true:=by decide +kernel
theorem rn6:∀ m,m<15→∀ b,b<5→∀ c,c<10→RnB (nmT m) ([99,108,97,105,109,32] ++ waysL.getD b [] ++ [32] ++ dM ((c:Nat):Int))=true:=by decide +kernel
theorem rn7:∀ m,m<15→∀ b,b<5→RnB (nmT m) ([102,114,101,101,32] ++ waysL.getD b [])=true:=by decide +kernel
theorem rn8:∀ m,m<15→∀ b,b<5→∀ c,c<3→∀ d,d<3→RnB (nmT m) ([119,97,121,32] ++ waysL.getD b [] ++ [32] ++ roomsL.getD c [] ++ [32] ++ roomsL.getD d [])=true:=by decide +kernel
theorem rn9:∀ m,m<15→∀ d,d<2→RnB (nmT m) ([114,111,111,109,32] ++ [[118,97,117,108,116],[116,97,98,108,101]].getD d [])=true:=by decide +kernel
theorem rn0:∀ m,m<15→∀ x∈Xx,RnB (nmT m) x=true:=by decide +kernel
theorem rnLine {m:Nat} (hm:m<15) (q:Q4):RnB (nmT m) (K8 false q)=true:=by
 have hb:q.b % 5<5:=dY _ aD;have h10:q.c % 10<10:=dY _ aD;have h5:q.c % 5<5:=dY _ aD;have h3:q.c % 3<3:=dY _ aD;have hd3:q.d % 3<3:=dY _ aD;have hd2:q.d % 2<2:=dY _ aD;unfold K8;dsimp only;split;exact rn1 _ hm _ hb _ h10;split;exact rn2 _ hm _ hb _ h10;split;exact rn3 _ hm _ hb _ h5;split;exact rn4 _ hm _ hd2 _ h5;split;exact rn5 _ hm _ hd2 _ h5;split;exact rn6 _ hm _ hb _ h10;split;exact rn7 _ hm _ hb;split;exact rn8 _ hm _ hb _ h3 _ hd3;exact rn9 _ hm _ hd2
structure RnS (n:Nat) (x:Str):Prop where
  e:Ku (rnL (nmT n) x)=0
  t:Kv (rnL (nmT n) x)=(Kv x).ren (gN (nmT n))
  k:(OG 32 x).length=2∨(OG 32 x).length=3∨(OG 32 x).length=4
  w:∀ w∈rnW (nmT n) (OG 32 x),w.length≤12
  l:(rnL (nmT n) x).length≤60
theorem rn_of {n:Nat} {x:Str} (h:RnB (nmT (n % 15)) x=true):RnS n x:=by
 rw[←U9] at h;unfold RnB at h;simp only[dI,decide_eq_true_eq,fI] at h;obtain⟨⟨⟨⟨⟨h1,h2⟩,h3⟩,h4⟩,h5⟩,h6⟩:=h;exact⟨h1,tEqB_eq h2,by omega,h5,h6⟩
theorem rn_year {n:Nat} {y:List Q4}:∀ x∈YK (ZP false y),RnS n x:=by
 intro x hx;refine rn_of ?_;have hx:=Um _ (dF _) x hx;rcases dH.1 hx with h|h
 exact rn0 _ (dY _ aD) x h;obtain⟨q,_,rfl⟩:=dR.1 h;exact rnLine (dY _ aD) q
def nmF (T:List (Str × Str)) (s:Str):Str:=(Oo T s).getD []
theorem nmF_keys15:∀ m,m<15→∀ w∈waysL ++ roomsL ++ [[118,97,117,108,116],[116,97,98,108,101]],nmF (nmT m) w=gN (nmT m) w:=by decide +kernel
theorem Jk (n:Nat) {w:Str} (h:w∈waysL ++ roomsL ++ [[118,97,117,108,116],[116,97,98,108,101]]∨w = []):nmF (nmT n) w=gN (nmT n) w:=by
 rcases h with h|h
 rw[U9]; exact nmF_keys15 _ (dY _ aD) w h
 ·rw[h,(gN_ren n).nil];have h1:=gN_nil (UE n);unfold nmF;unfold gN at h1
  cases hm:Oo (nmT n) ([]:Str) with
  | none=>rfl
  | some b=>rw[hm] at h1; exact h1
end Go.Am
