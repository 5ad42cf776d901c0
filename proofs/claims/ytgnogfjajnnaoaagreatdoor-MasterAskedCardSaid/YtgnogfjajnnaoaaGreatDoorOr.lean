/-
  Layer 14: what is wrong with a line is the same in the reference's office (plain).
  Conditions: none.
-/
import Derived.Test.YtgnogfjajnnaoaaGreatDoorOm
open Int renaming toNat_natCast → fH, le_trans → gI
open List renaming getD_eq_getElem?_getD → fA, getElem?_eq_getElem → fE, set_cons_zero → fI, set_cons_succ → fO, length_map → fU, length_append → fB, length_singleton → fC, getElem?_concat_length → fD, filter_cons → fF, map_cons → fG, map_append → fK, length_set → fL, getElem?_eq_some_iff → fM, mem_map → fN, mem_singleton → fP, countP_cons → fQ, nil_append → fR, eq_nil_of_length_eq_zero → fS, getD_cons_zero → fT, getD_cons_succ → fV, getElem?_map → fX, filter_cons_of_neg → fZ, filter_cons_of_pos → gA, mem_append → gE, nodup_cons → gO
open Nat renaming le_of_ble_eq_true → fY, zero_add → fJ, le_refl → fW
set_option maxRecDepth 99999
set_option maxHeartbeats 4000000
namespace Go.Am
theorem wr_room {s:RO} {o:Ord} (h:o.kind=OO):s.wrong o=s.built o:=if_pos (.inl h)
theorem wr_way {s:RO} {o:Ord} (h:o.kind=O1):s.wrong o=s.built o:=if_pos (.inr h)
theorem wr_pack {s:RO} {o:Ord} (h:o.kind=OQ):s.wrong o=s.came o:=by unfold RO.wrong; rw[h]; rfl
theorem Jp {s:RO} {o:Ord} (h1:¬ (o.kind=OO∨o.kind=O1)) (h2:o.kind≠OQ):s.wrong o=if o.names = [] then s.moved o else s.told o:=by unfold RO.wrong; rw[if_neg h1,if_neg h2]
theorem VV {O:Off} {s:RO} (S:SimO O s) {o:Ord} (hm:OC O.ways o.n0=none):s.told o=2:=by
 unfold RO.told; rw[S.findN hm,if_pos aD]
theorem VX {O:Off} {s:RO} (S:SimO O s) {o:Ord} {l:Lane} (hm:OC O.ways o.n0=some l) (hp:l.paid=true):s.told o=20:=by
 obtain⟨i,h1,h2,h3,h4,_⟩:=S.findS hm;have r:=S.lane i h2;rw[h4] at r;obtain⟨n,_,h5,h6⟩:=r.paid hp;unfold RO.told; rw[h1,if_neg aB,fH,h6,if_pos h5]
theorem VW {O:Off} {s:RO} (S:SimO O s) {o:Ord} {l:Lane} (hm:OC O.ways o.n0=some l) (hp:l.paid=false):∃ i:Nat,s.find o.n0=i∧O.ways[i]? = some (o.n0,l)∧i<O.ways.length∧s.told o=if o.kind=OW then 0 else if o.kind≠OD then s.narrowed o else if ¬ (s.spl i≤o.m0∧o.m0≤s.sph i) then 14 else if s.spl i<s.sph i then 21 else 0:=by
 obtain⟨i,h1,h2,h3,h4,_⟩:=S.findS hm;have r:=S.lane i h2;rw[h4] at r;obtain⟨h5,_⟩:=r.free hp;refine⟨i,h1,h3,h2,?_⟩;unfold RO.told; rw[h1,if_neg aB,fH,h5,if_neg aD]
theorem spl_is {O:Off} {s:RO} (S:SimO O s) (i:Nat):s.spl i=O.spLo i∧s.sph i=O.spHi i:=by
 unfold RO.spl RO.sph Off.spLo Off.spHi;rw[S.ws,S.rm]; exact⟨rfl,rfl⟩
theorem Wu {s:RO} {i:Nat} {w:RW} (hi:i<s.ways.length) (hw:w.name=(s.ways.getD i default).name) {k:Str}:({s with ways:=s.ways.set i w}:RO).find k=s.find k:=JB hi hw
theorem sim_wrong {O:Off} {s:RO} {o:Ord} {t:Tell} (S:SimO O s) (hW:WF O) (c:OT o t):s.wrong o=O.wrong t:=by
 cases c with
 | room a h e=>
  subst h e;rw[wr_room rfl];unfold RO.built;rw[if_pos rfl];show(if 0≤s.room a then (6:Int) else if s.rooms.length=6 then 3 else 0)=if a∈O.rooms then 6 else if O.rooms.length=6 then 3 else 0
  rw[S.rooms];by_cases h:a∈O.rooms;rw[if_pos h,if_pos (S.room.2 h)];rw[if_neg h,if_neg (fun x=>h (S.room.1 x))]
 | way a b c h e=>
  subst h e;rw[wr_way rfl,Z1];unfold RO.built;rw[if_neg (show¬ O1=OO by decide)];show(if 0≤s.find a then (6:Int) else if s.room b<0∨s.room c<0 then 2 else if b=c then 13 else if s.ways.length=12 then 3 else 0)=_;have h1 : 0≤s.find a↔(OC O.ways a).isSome=true:=by
   rw[RO.find,S.names,ixE_nn,Xe]
  have h2:(s.room b<0∨s.room c<0)↔(b ∉ O.rooms∨c ∉ O.rooms):=by rw[S.roomL,S.roomL]
  rw[S.len];simp only[h1,h2]
 | least a n h0 h e=>
  subst h e;rw[Jp (show¬ (OE=OO∨OE=O1) by decide) (show OE≠OQ by decide),if_neg aR]
  cases hm:OC O.ways a with
  | none=>rw[VV S (o:=⟨OE,[a],[n]⟩) hm,ZW (by rw[opE,hm]; decide),opE,hm]
  | some l=>
   cases hp:l.paid with
   | true=>rw[VX S (o:=⟨OE,[a],[n]⟩) hm hp,ZW (by rw[opE,hm]; simp[hp]),opE,hm]; simp[hp]
   | false=>
    obtain⟨i,h1,h2,h3,h4⟩:=VW S (o:=⟨OE,[a],[n]⟩) hm hp;rw[h4,YN hm hp,if_neg (show¬ OE=OW by decide),if_pos (show OE≠OD by decide)];have hd:=Yk (s:=s) (o:=⟨OE,[a],[n]⟩) rfl;rw[Q6 h1] at hd;refine JS hW.nd h2 ?_ (by rw[hd]; refine(Wu ?_ ?_).trans h1; rw[S.len]; exact h3; rfl);rw[hd]; exact Uq S hW h2 (g:=false) hp h0
 | most a n h0 h e=>
  subst h e;rw[Jp (show¬ (OU=OO∨OU=O1) by decide) (show OU≠OQ by decide),if_neg aR]
  cases hm:OC O.ways a with
  | none=>rw[VV S (o:=⟨OU,[a],[n]⟩) hm,ZW (by rw[opE,hm]; decide),opE,hm]
  | some l=>
   cases hp:l.paid with
   | true=>rw[VX S (o:=⟨OU,[a],[n]⟩) hm hp,ZW (by rw[opE,hm]; simp[hp]),opE,hm]; simp[hp]
   | false=>
    obtain⟨i,h1,h2,h3,h4⟩:=VW S (o:=⟨OU,[a],[n]⟩) hm hp;rw[h4,YN hm hp,if_neg (show¬ OU=OW by decide),if_pos (show OU≠OD by decide)];have hd:=YT (s:=s) (o:=⟨OU,[a],[n]⟩) rfl;rw[Q6 h1] at hd;refine JS hW.nd h2 ?_ (by rw[hd]; refine(Wu ?_ ?_).trans h1; rw[S.len]; exact h3; rfl);rw[hd]; exact Uq S hW h2 (g:=true) hp h0
 | free a h e=>
  subst h e;rw[Jp (show¬ (OW=OO∨OW=O1) by decide) (show OW≠OQ by decide),if_neg aR]
  cases hm:OC O.ways a with
  | none=>rw[VV S (o:=⟨OW,[a],[]⟩) hm,Vi,opE,hm]
  | some l=>
   cases hp:l.paid with
   | true=>rw[VX S (o:=⟨OW,[a],[]⟩) hm hp,Vi,opE,hm]; simp[hp]
   | false=>
    obtain⟨i,h1,h2,h3,h4⟩:=VW S (o:=⟨OW,[a],[]⟩) hm hp;rw[h4,if_pos (show OW=OW from rfl),Vi,opE,hm]; simp[hp]
 | claim a n h0 h e=>
  subst h e;rw[Jp (show¬ (OD=OO∨OD=O1) by decide) (show OD≠OQ by decide),if_neg aR]
  cases hm:OC O.ways a with
  | none=>rw[VV S (o:=⟨OD,[a],[n]⟩) hm,Zd (by rw[opE,hm]; decide),opE,hm]
  | some l=>
   cases hp:l.paid with
   | true=>rw[VX S (o:=⟨OD,[a],[n]⟩) hm hp,Zd (by rw[opE,hm]; simp[hp]),opE,hm]; simp[hp]
   | false=>
    obtain⟨i,h1,h2,h3,h4⟩:=VW S (o:=⟨OD,[a],[n]⟩) hm hp;have hpl:l.pl=i:=by
     have:=hW.pl i h3;rwa [show O.ways.getD i default=(a,l) by rw[fA,h2]; rfl] at this
    obtain⟨e1,e2⟩:=spl_is S i;rw[h4,Zu hm hp,if_neg (show¬ OD=OW by decide),if_neg (show¬ OD≠OD by decide),e1,e2,hpl];show(if ¬ (O.spLo i≤n∧n≤O.spHi i) then (14:Int) else _)=_;by_cases hc:O.spLo i≤n∧n≤O.spHi i;rw[if_neg (fun x=>x hc),if_neg (show¬ (n<O.spLo i∨O.spHi i<n) by omega)];rw[if_pos hc,if_pos (show n<O.spLo i∨O.spHi i<n by omega)]
 | pack p a h e=>
  subst h e;rw[wr_pack rfl];have hev:(∃ q∈s.packs,q.number=p)↔p∈O.ever:=by
   rw[←S.ever];exact⟨fun⟨q,hq,e⟩=>fN.2 ⟨q,hq,e⟩,fun h=>by obtain⟨q,hq,e⟩:=fN.1 h; exact⟨q,hq,e⟩⟩
  unfold RO.came;show(if ∃ q∈s.packs,q.number=p then (6:Int) else if s.find a<0 then 2 else if s.there=20 then 3 else if s.hi (s.find a).toNat<s.count (s.find a)+1 then 15 else s.narrowed ⟨OQ,[a],[p]⟩)=_;by_cases hp:p∈O.ever;rw[if_pos (hev.2 hp),V9 hp]
  ·rw[if_neg (fun x=>hp (hev.1 x))]
   cases hm:OC O.ways a with
   | none=>rw[S.findN hm,if_pos aD,Ja hp hm]
   | some l=>
    obtain⟨i,h1,h2,h3,h4,h5⟩:=S.findS hm;have r:=S.lane i h2;rw[h4] at r;rw[Yu hp hm,h1,if_neg aB,fH,r.hi,r.cnt,S.cnt];have hd:=YU (s:=s) (o:=⟨OQ,[a],[p]⟩) rfl;have hd2:s.done ⟨OQ,[a],[p]⟩ = {s with packs:=s.packs ++ [⟨p,i,1⟩]}:=by rw[hd]; show _=_; rw[show(⟨OQ,[a],[p]⟩:Ord).n0=a from rfl,h1]; rfl
    rw[JS hW.nd h3 (f:=chP p) (by rw[hd2]; exact RL S hW h3) (by rw[hd2]; exact h1)];have e1:((O.packs.length:Int)=20)↔O.packs.length=20:=by omega
    have e2:(l.hi<(l.packs.length:Int)+1)↔l.hi≤l.packs.length:=by omega
    simp only[e1,e2]
 | move k p x hk h e=>
  subst h e;have hk1:¬ (k=OO∨k=O1):=by rcases hk with ⟨rfl,_⟩|⟨rfl,_⟩|⟨rfl,_⟩|⟨rfl,_⟩ <;> decide
  have hk2:k≠OQ:=by rcases hk with ⟨rfl,_⟩|⟨rfl,_⟩|⟨rfl,_⟩|⟨rfl,_⟩ <;> decide
  rw[Jp (show¬ ((⟨k,[],[p]⟩:Ord).kind=OO∨(⟨k,[],[p]⟩:Ord).kind=O1) from hk1) hk2,if_pos rfl];unfold RO.moved;show(if s.held p<0 then (2:Int) else RO.movedE k (s.packs.getD (s.held p).toNat default).state)=_
  cases hm:OC O.packs p with
  | none=>rw[S.heldN hm,if_pos aD,Kv hm]
  | some d=>
   obtain⟨j,h1,h2,h3,h4,h5,_⟩:=S.heldS hm;rw[h1,if_neg aB,fH,h4,KH hm];unfold RO.movedE;rcases hk with ⟨rfl,rfl⟩|⟨rfl,rfl⟩|⟨rfl,rfl⟩|⟨rfl,rfl⟩ <;> simp[ON,OL,OM,OK]
end Go.Am
namespace Go.Am
theorem Uh {α β:Type} {l:List α} {j:Nat} {a d : α} {f : α→β} (hj:j<l.length) (h:f a=f (l.getD j d)):(l.set j a).map f=l.map f:=by
 rw[List.map_set,h,fA,fE hj,Option.getD_some];have:(l.map f).set j ((l.map f)[j]'(by rw[fU]; exact hj))=l.map f:=List.set_getElem_self _;rwa [List.getElem_map] at this
theorem Tx {f:RP→Bool} {q:RP}:∀ {l:List RP} {j:Nat},j<l.length→f q=f (l.getD j default)→q.number=(l.getD j default).number→((l.set j q).filter f).map (·.number)=(l.filter f).map (·.number):=by
 intro l
 induction l with
 | nil=>intro j hj; cases hj
 | cons a l ih=>
  intro j hj h1 h2
  cases j with
  | zero=>
   rw[fT] at h1 h2;rw[fI,fF,fF,h1];split <;> simp[h2]
  | succ j=>
   rw[fV] at h1 h2;have:=ih (by simpa using hj) h1 h2;rw[fO,fF,fF];split <;> simp[this]
theorem filt_burn {f:RP→Bool} {q:RP}:∀ {l:List RP} {j:Nat},j<l.length→f q=false→f (l.getD j default)=true→(l.map (·.number)).Nodup→((l.set j q).filter f).map (·.number)=((l.filter f).map (·.number)).filter fun x=>!decide (x=(l.getD j default).number):=by
 intro l
 induction l with
 | nil=>intro j hj; cases hj
 | cons a l ih=>
  intro j hj h1 h2 nd;rw[fG,gO] at nd
  cases j with
  | zero=>
   rw[fT] at h2⊢;rw[fI,fZ (by rw[h1]; decide),gA h2,fG,fZ aR];symm;rw[List.filter_eq_self];intro x hx;obtain⟨p,hp,rfl⟩:=fN.1 hx;have hne:p.number≠a.number:=fun e=>nd.1 (fN.2 ⟨p,(List.mem_filter.1 hp).1,e⟩)
   simp[hne]
  | succ j=>
   rw[fV] at h2⊢;have hj':j<l.length:=by simpa using hj
   have:=ih hj' h1 h2 nd.2;rw[fO,fF,fF];have hne:a.number≠(l.getD j default).number:=fun e=>nd.1 (fN.2 ⟨_,getD_mem hj',e.symm⟩)
   split;rw[fG,fG,gA (by show(!decide (a.number=_))=true; rw[decide_eq_false hne]; rfl),this];exact this
theorem cnt_set {f:RP→Bool} {q:RP}:∀ {l:List RP} {j:Nat},j<l.length→(l.set j q).countP f+(if f (l.getD j default)=true then 1 else 0)=l.countP f+if f q=true then 1 else 0:=by
 intro l
 induction l with
 | nil=>intro j hj; cases hj
 | cons a l ih=>
  intro j hj
  cases j with
  | zero=>
   rw[fT,fI,fQ,fQ];omega
  | succ j=>
   rw[fV,fO,fQ,fQ];have:=ih (j:=j) (by simpa using hj);omega
theorem mget_mdel {κ ν:Type} [DecidableEq κ] {l:List (κ × ν)} (hn:(l.map (·.1)).Nodup) {k n : κ}:OC (Xl l k) n=if n=k then none else OC l n:=by
 induction l with
 | nil=>simp[Xl,OC]
 | cons p l ih=>
  rw[fG,gO] at hn;simp only[Xl,OC];by_cases hk:p.1=k;subst hk;by_cases hnk:n=p.1;subst hnk;simp only[if_pos]
  first|exact Ui hn.1|(rw[if_pos rfl]; exact Ui hn.1)
  simp only[if_neg hnk]
  first|rfl|(rw[if_pos rfl])
  have hk':¬ k=p.1:=fun e=>hk e.symm
  by_cases hnp:n=p.1;subst hnp;simp[hk,hk',OC];simp[hk,hk',OC,hnp,ih hn.2]
theorem names_len {s s':RO} (h:s'.names=s.names):s'.ways.length=s.ways.length:=by
 have:=congrArg List.length h;rwa [RO.names,RO.names,fU,fU] at this
theorem SimO.lift {O O':Off} {s s':RO} (S:SimO O s) (L:SimL O' s') (hp:s'.packs=s.packs) (hc:s'.claims=s.claims) (ho:O'.packs=O.packs) (he:O'.ever=O.ever) (hcl:O'.claims=O.claims) (hn:s'.names=s.names):SimO O' s':=by
 have hl:=names_len hn;refine{toSimL:=L,ever:=?_,nd:=?_,held:=?_,gone:=?_,key:=?_,cnt:=?_,claims:=?_,cl:=?_};rw[hp,he]; exact S.ever;rw[hp]; exact S.nd;rw[hp,ho,hl,hn]; exact S.held;rw[hp,ho]; exact S.gone;rw[ho,he]; exact S.key;rw[RO.there,hp,ho]; exact S.cnt;rw[hcl,hc,hn]; exact S.claims;rw[hc,hl]; exact S.cl
theorem SimO.claim {O:Off} {s:RO} (S:SimO O s) {w:Str} {i:Nat} (hi:i<s.ways.length) (hw:s.names.getD i []=w):SimO {O with claims:=O.claims ++ [w]} {s with claims:=s.claims ++ [(i:Int)]}:=by
 refine{toSimL:=⟨S.rooms,S.names,S.lane⟩,ever:=S.ever,nd:=S.nd,held:=S.held,gone:=S.gone,key:=S.key,cnt:=S.cnt,claims:=?_,cl:=?_};show O.claims ++ [w]=(s.claims ++ [(i:Int)]).map fun i=>s.names.getD i.toNat []
 rw[fK,←S.claims];simp only[fG,List.map_nil,fH,hw];intro x hx;rcases gE.1 hx with hx|hx
 exact S.cl x hx;rw[fP] at hx;exact⟨i,hx,hi⟩
theorem Je {O:Off} {s:RO} (S:SimO O s) {w:Str} {l:Lane} (h:OC O.ways w=some l) : 0≤s.find w:=by
 obtain⟨i,h1,_⟩:=S.findS h;omega
theorem sim_okr {O:Off} {s:RO} {o:Ord} {t:Tell} (S:SimO O s) (c:OT o t) (h0:O.wrong t=0):OkR s o:=by
 have hok:=c.ok;refine⟨hok.room,hok.way,fun e=>⟨(hok.tell e).1,(hok.tell e).2,?_⟩,fun e=>⟨hok.free e,?_⟩,hok.pack,fun e=>⟨(hok.move e).1,?_⟩⟩
 all_goals clear hok
 ·cases c with
  | least a n _ h e2=>subst h e2; obtain⟨l,hm,_⟩:=Zt h0; exact Je S hm
  | most a n _ h e2=>subst h e2; obtain⟨l,hm,_⟩:=Zt h0; exact Je S hm
  | claim a n _ h e2=>subst h e2; obtain⟨l,hm,_⟩:=Xg h0; exact Je S hm
  | room a h _=>subst h; exact absurd e aN
  | way a b c h _=>subst h; exact absurd e aN
  | free a h _=>subst h; exact absurd e aN
  | pack p a h _=>subst h; exact absurd e aN
  | move k p s hk h _=>subst h; rcases hk with ⟨rfl,_⟩|⟨rfl,_⟩|⟨rfl,_⟩|⟨rfl,_⟩ <;> exact absurd e aN
 ·cases c with
  | free a h e2=>subst h e2; obtain⟨l,hm,_⟩:=XN h0; exact Je S hm
  | least a n _ h _=>subst h; exact absurd e aN
  | most a n _ h _=>subst h; exact absurd e aN
  | claim a n _ h _=>subst h; exact absurd e aN
  | room a h _=>subst h; exact absurd e aN
  | way a b c h _=>subst h; exact absurd e aN
  | pack p a h _=>subst h; exact absurd e aN
  | move k p s hk h _=>subst h; rcases hk with ⟨rfl,_⟩|⟨rfl,_⟩|⟨rfl,_⟩|⟨rfl,_⟩ <;> exact absurd e aN
 ·cases c with
  | move k p x hk h e2=>
   subst h e2;obtain⟨d,hm⟩:=XO h0;obtain⟨j,h1,_⟩:=S.heldS hm;show 0≤s.held p;omega
  | free a h _=>subst h; exact absurd e aN
  | least a n _ h _=>subst h; exact absurd e aN
  | most a n _ h _=>subst h; exact absurd e aN
  | claim a n _ h _=>subst h; exact absurd e aN
  | room a h _=>subst h; exact absurd e aN
  | way a b c h _=>subst h; exact absurd e aN
  | pack p a h _=>subst h; exact absurd e aN
theorem Vb {s:RO} {i:Nat} {w:RW} (hi:i<s.ways.length) (hw:w.name=(s.ways.getD i default).name):RO.names {s with ways:=s.ways.set i w} = s.names:=Uj hi hw
theorem JN {l:List RP} {j:Nat} {q p:RP} (hj:j<l.length) (hp:p∈l.set j q):p=q∨∃ k,k<l.length∧k≠j∧p=l.getD k default:=by
 obtain⟨k,hk,rfl⟩:=List.mem_iff_getElem.1 hp;rw[fL] at hk;by_cases h:k=j;subst h; left; rw[List.getElem_set_self];right; refine⟨k,hk,h,?_⟩;rw[List.getElem_set_ne (fun e=>h e.symm),fA,fE hk]; rfl
theorem WG {l:List RP} (nd:(l.map (·.number)).Nodup) {j k:Nat} (hj:j<l.length) (hk:k<l.length) (h:k≠j):(l.getD k default).number≠(l.getD j default).number:=by
 intro e;have e1:(l.map (·.number))[k]? = some (l.getD j default).number:=by rw[fX,fE hk,Option.map_some,←e,fA,fE hk]; rfl
 have e2:(l.map (·.number))[j]? = some (l.getD j default).number:=by rw[fX,fE hj,Option.map_some,fA,fE hj]; rfl
 exact h (Yb nd e1 e2)
end Go.Am
namespace Go.Am
section
variable {O:Off} {s:RO} (S:SimO O s) (hW:WF O)
include S hW
theorem WT {w:Str} {l:Lane} {n:Int} {g:Bool} (hm:OC O.ways w=some l) (hp:l.paid=false) (hn : 0≤n):SimO (O.mod w (chB n g)) {s with ways:=XQ s.ways (s.find w) fun x=>if g then {x with top:=n} else {x with told:=n}}:=by
 obtain⟨i,h1,h2,h3,h4,_⟩:=S.findS hm;rw[Q6 h1];refine S.lift (Uq S hW h3 hp hn) rfl rfl rfl rfl rfl (Vb (by rw[S.len]; exact h2) ?_)
 cases g <;> rfl
theorem tell_free {w:Str} {l:Lane} (hm:OC O.ways w=some l) (hp:l.paid=false):SimO (O.mod w fun l=>{l with told:=none,top:=none}) {s with ways:=XQ s.ways (s.find w) fun x=>{x with told:=-1,top:=-1}}:=by
 obtain⟨i,h1,h2,h3,h4,_⟩:=S.findS hm;obtain⟨_,h6,r⟩:=at_i S h3;rw[Q6 h1];refine S.lift (S.toSimL.setL hW.nd h3 (ps:=s.packs) rfl (r.freed hp) (fun j hj _=>S.lane j hj)) rfl rfl rfl rfl rfl (Vb h6 rfl)
theorem tell_claim {w:Str} {l:Lane} {n:Int} (hm:OC O.ways w=some l) (hn : 0≤n):SimO {O.mod w (fun l=>{l with paid:=true,told:=some n}) with claims:=O.claims ++ [w]} {s with ways:=XQ s.ways (s.find w) fun x=>{x with paid:=n},claims:=s.claims ++ [s.find w]}:=by
 obtain⟨i,h1,h2,h3,h4,h5⟩:=S.findS hm;obtain⟨_,h6,r⟩:=at_i S h3;rw[Q6 h1,h1];have S1:SimO (O.mod w (fun l=>{l with paid:=true,told:=some n})) {s with ways:=s.ways.set i {(s.ways.getD i default) with paid:=n}}:=S.lift (S.toSimL.setL hW.nd h3 (ps:=s.packs) rfl (r.claimed hn) (fun j hj _=>S.lane j hj)) rfl rfl rfl rfl rfl (Vb h6 rfl);exact S1.claim (w:=w) (i:=i) (by show i<(s.ways.set i _).length; rw[fL]; exact h6) (by have e:=Vb (w:={(s.ways.getD i default) with paid:=n}) h6 rfl; exact(congrArg (fun l=>List.getD l i []) e).trans h5)
theorem tell_room {a:Str}:SimO {O with rooms:=O.rooms ++ [a]} {s with rooms:=s.rooms ++ [a]}:=by
 have _:=hW;refine S.lift ⟨?_,S.names,S.lane⟩ rfl rfl rfl rfl rfl rfl;show s.rooms ++ [a]=O.rooms ++ [a];rw[S.rooms]
theorem tell_way {a b c:Str} (hb:b∈O.rooms) (hc:c∈O.rooms):SimO {O with ways:=O.ways ++ [(a,⟨O.ways.length,Kh O.rooms b,Kh O.rooms c,none,none,[],false⟩)]} {s with ways:=s.ways ++ [⟨a,s.room b,s.room c,-1,-1,-1⟩]}:=by
 have _:=hW;have hl:=S.len;have hnl:s.names.length=s.ways.length:=fU _;have hnm:RO.names {s with ways:=s.ways ++ [⟨a,s.room b,s.room c,-1,-1,-1⟩]} = s.names ++ [a]:=by simp[RO.names]
 have hget:∀ i,i<s.ways.length→(s.names ++ [a]).getD i []=s.names.getD i []:=fun i hi=>ZO _ aB
 have room:∀ x,x∈O.rooms→s.room x=(Kh O.rooms x:Int):=fun x hx=>by rw[RO.room,S.rooms,ixE,if_pos hx]
 refine{toSimL:=⟨S.rooms,?_,?_⟩,ever:=S.ever,nd:=S.nd,held:=?_,gone:=S.gone,key:=S.key,cnt:=S.cnt,claims:=?_,cl:=?_};rw[hnm,S.names,fK]; rfl;intro i hi;dsimp only at hi⊢;rw[fB,fC] at hi;by_cases h:i<O.ways.length;rw[ZO _ h,ZO _ aB]; exact S.lane i h;obtain rfl:i=O.ways.length:=by omega
 have e1:(O.ways ++ [(a,(⟨O.ways.length,Kh O.rooms b,Kh O.rooms c,none,none,[],false⟩:Lane))]).getD O.ways.length default=(a,⟨O.ways.length,Kh O.rooms b,Kh O.rooms c,none,none,[],false⟩):=by
  rw[fA,fD]; rfl
 have e2:(s.ways ++ [(⟨a,s.room b,s.room c,-1,-1,-1⟩:RW)]).getD O.ways.length default=⟨a,s.room b,s.room c,-1,-1,-1⟩:=by
  rw[←hl,fA,fD]; rfl
 rw[e1,e2];refine⟨room b hb,room c hc,?_,fun h=>bR,fun _=>⟨rfl,rfl,rfl⟩,fun m hm=>(by cases hm),fun m hm=>(by cases hm)⟩;have:s.packs.filter (QB (O.ways.length:Nat)) = []:=by
  rw[List.filter_eq_nil_iff];intro p hp hcb;unfold QB at hcb;rw[Bool.and_eq_true,decide_eq_true_eq,decide_eq_true_eq] at hcb;obtain⟨w,i,_,h2,h3,_⟩:=S.held p hp hcb.2;omega
 show []=(s.packs.filter (QB (O.ways.length:Nat))).map (·.number);rw[this]; rfl;intro p hp h;obtain⟨w,i,h1,h2,h3,h4⟩:=S.held p hp h;refine⟨w,i,h1,h2,?_,?_⟩;show i<(s.ways ++ [_]).length;rw[fB]; omega;rw[hnm,hget i h3]; exact h4;rw[hnm];refine S.claims.trans (List.map_congr_left fun x hx=>?_);obtain⟨k,rfl,hk⟩:=S.cl x hx;exact(hget _ hk).symm;intro x hx;obtain⟨k,h1,hk⟩:=S.cl x hx;refine⟨k,h1,?_⟩;show k<(s.ways ++ [_]).length;rw[fB]; omega
theorem tell_pack {p:Int} {w:Str} {l:Lane} (hm:OC O.ways w=some l) (hp:p ∉ O.ever):SimO {O.mod w (chP p) with packs:=O.packs ++ [(p,(w,1))],ever:=O.ever ++ [p]} {s with packs:=s.packs ++ [⟨p,s.find w,1⟩]}:=by
 obtain⟨i,h1,h2,h3,h4,h5⟩:=S.findS hm;rw[h1];have L:=RL S hW h3 (p:=p);have hpk:p ∉ O.packs.map (·.1):=fun h=>hp (S.key p ((Xe _ _).2 h))
 have hold:∀ n,n∈O.ever→OC (O.packs ++ [(p,(w,(1:Int)))]) n=OC O.packs n:=by
  intro n hn;have hne:n≠p:=fun e=>hp (e ▸ hn)
  rw[←JI (b:=(w,(1:Int))) hpk,ZH,if_neg hne]
 have hnum:∀ q∈s.packs,q.number∈O.ever:=fun q hq=>by rw[←S.ever]; exact fN.2 ⟨q,hq,rfl⟩
 refine{toSimL:=⟨L.rooms,L.names,L.lane⟩,ever:=?_,nd:=?_,held:=?_,gone:=?_,key:=?_,cnt:=?_,claims:=S.claims,cl:=S.cl};show(s.packs ++ [_]).map _=O.ever ++ [p];rw[fK,S.ever]; rfl;show((s.packs ++ [_]).map _).Nodup;rw[fK,List.nodup_append];refine⟨S.nd,by simp,?_⟩;intro a ha b hb;rw[S.ever] at ha;simp only[fG,List.map_nil,fP] at hb;subst hb;intro e; exact hp (e ▸ ha);intro q hq hst;show ∃ w' i',OC (O.packs ++ [(p,(w,1))]) q.number=_∧_;rcases gE.1 hq with hq|hq
 rw[hold _ (hnum q hq)]; exact S.held q hq hst;rw[fP] at hq;subst hq;refine⟨w,i,?_,rfl,by rw[S.len]; exact h2,h5⟩;rw[←JI (b:=(w,(1:Int))) hpk,ZH,if_pos rfl];intro q hq hst;show OC (O.packs ++ [(p,(w,1))]) q.number=none;rcases gE.1 hq with hq|hq
 rw[hold _ (hnum q hq)]; exact S.gone q hq hst;rw[fP] at hq;subst hq; exact absurd (show(0:Int)<1 by decide) hst;intro n hn;show n∈O.ever ++ [p];have hn:(OC (O.packs ++ [(p,(w,(1:Int)))]) n).isSome=true:=hn;rw[←JI (b:=(w,(1:Int))) hpk,ZH] at hn;by_cases he:n=p;rw[he]; simp;rw[if_neg he] at hn; exact List.mem_append_left _ (S.key n hn);show RO.there _=(((O.packs ++ [_]).length:Nat):Int);unfold RO.there;rw[List.countP_append,fB];have:=S.cnt;unfold RO.there at this;rw[List.countP_singleton,fC];simp only[show decide ((0:Int)<1)=true from rfl,if_true];omega
theorem Uv {p x:Int} {d:Str × Int} (hm:OC O.packs p=some d) (hx : 0<x):SimO {O with packs:=Qn O.packs p (d.1,x)} {s with packs:=Y3 s.packs (s.held p) x}:=by
 have _:=hW;obtain⟨j,h1,hj,h3,h4,h5,i,h6,h7,h8⟩:=S.heldS hm;rw[Vm h1];generalize hq:({(s.packs.getD j default) with state:=x}:RP)=q;have q1:q.number=(s.packs.getD j default).number:=by rw[←hq]
 have q2:q.way=(s.packs.getD j default).way:=by rw[←hq]
 have q3:q.state=x:=by rw[←hq]
 have hmap:(s.packs.set j q).map (·.number)=s.packs.map (·.number):=Uh hj q1;have hcb:∀ k:Int,QB k q=QB k (s.packs.getD j default):=by
  intro k;unfold QB;rw[q2,q3,h4,decide_eq_true hx,decide_eq_true h5]
 have hin:p∈O.packs.map (·.1):=(Xe _ _).1 (by rw[hm]; rfl);refine{toSimL:=⟨S.rooms,S.names,?_⟩,ever:=hmap.trans S.ever,nd:=(by show((s.packs.set j q).map _).Nodup; rw[hmap]; exact S.nd),held:=?_,gone:=?_,key:=?_,cnt:=?_,claims:=S.claims,cl:=S.cl};intro k hk;have r:=S.lane k hk;refine⟨r.fr,r.to,?_,r.paid,r.free,r.tn,r.pn⟩;show _=((s.packs.set j q).filter _).map _;rw[Tx hj (hcb k) q1]; exact r.pks;intro y hy hst;show ∃ w' i',OC (Qn O.packs p (d.1,x)) y.number=_∧_;rcases JN hj hy with rfl|⟨k,hk,hkj,rfl⟩
 refine⟨d.1,i,?_,q2.trans h6,h7,h8⟩;rw[ZH,if_pos (q1.trans h3),q3];have:=WG S.nd hj hk hkj;rw[h3] at this;rw[ZH,if_neg this];exact S.held _ (getD_mem hk) hst;intro y hy hst;show OC (Qn O.packs p (d.1,x)) y.number=none;rcases JN hj hy with rfl|⟨k,hk,hkj,rfl⟩
 rw[q3] at hst; exact absurd hx hst;have:=WG S.nd hj hk hkj;rw[h3] at this;rw[ZH,if_neg this];exact S.gone _ (getD_mem hk) hst;intro n hn;have hn:(OC (Qn O.packs p (d.1,x)) n).isSome=true:=hn;rw[ZH] at hn;by_cases he:n=p;rw[he]; exact S.key p (by rw[hm]; rfl);rw[if_neg he] at hn; exact S.key n hn
 ·show((s.packs.set j q).countP _:Int)=(((Qn O.packs p (d.1,x)).length:Nat):Int);rw[Si,if_pos hin];have h9:=cnt_set (f:=fun p=>decide (0<p.state)) (q:=q) hj;have h10:=S.cnt;unfold RO.there at h10
  try dsimp only at h9
  rw[q3,h4,decide_eq_true hx,decide_eq_true h5] at h9;omega
theorem tell_burn {p:Int} {d:Str × Int} {l:Lane} (hm:OC O.packs p=some d) (hl:OC O.ways d.1=some l):SimO {O.mod d.1 (fun l=>{l with packs:=l.packs.filter fun q=>!decide (q=p)}) with packs:=Xl O.packs p} {s with packs:=Y3 s.packs (s.held p) 0}:=by
 obtain⟨j,h1,hj,h3,h4,h5,i,h6,h7,h8⟩:=S.heldS hm;obtain⟨i2,f1,f2,f3,f4,f5⟩:=S.findS hl;obtain rfl:i2=i:=by
  have hn1:s.names[i2]? = some d.1:=by
   rw[fA,fE (by rw[RO.names,fU,S.len]; exact f2)] at f5;rw[fE (by rw[RO.names,fU,S.len]; exact f2)];exact congrArg some f5
  have hn2:s.names[i]? = some d.1:=by
   rw[fA,fE (by rw[RO.names,fU]; exact h7)] at h8;rw[fE (by rw[RO.names,fU]; exact h7)];exact congrArg some h8
  exact Yb (by rw[S.names]; exact hW.nd) hn1 hn2
 rw[Vm h1];generalize hq:({(s.packs.getD j default) with state:=0}:RP)=q;have q1:q.number=(s.packs.getD j default).number:=by rw[←hq]
 have q3:q.state=0:=by rw[←hq]
 have hmap:(s.packs.set j q).map (·.number)=s.packs.map (·.number):=Uh hj q1;have hcq:∀ k:Int,QB k q=false:=fun k=>by unfold QB; rw[q3]; simp
 have hco:∀ k:Nat,k≠i2→QB k (s.packs.getD j default)=false:=fun k hk=>by unfold QB; rw[h6,decide_eq_false aB]; rfl
 have hci:QB i2 (s.packs.getD j default)=true:=by unfold QB; rw[h6,h4,decide_eq_true rfl,decide_eq_true h5]; rfl
 have hdel:=fun n=>mget_mdel hW.pnd (k:=p) (n:=n)
 obtain⟨_,g2,r⟩:=at_i S f3
 have L := S.toSimL.setL hW.nd f3 (f := fun l => { l with packs := l.packs.filter fun q => !decide (q = p) }) (w' := s.ways.getD i2 default) (ps := s.packs.set j q) rfl
   ⟨r.fr,r.to,by rw[filt_burn hj (hcq i2) hci S.nd,h3,←r.pks],r.paid,r.free,r.tn,r.pn⟩
   (fun k hk hne=>by
     have rk:=S.lane k hk;exact⟨rk.fr,rk.to,by rw[Tx hj ((hcq k).trans (hco k hne).symm) q1]; exact rk.pks,rk.paid,rk.free,rk.tn,rk.pn⟩)
 rw[TT g2] at L;refine{toSimL:=⟨L.rooms,L.names,L.lane⟩,ever:=hmap.trans S.ever,nd:=(by show((s.packs.set j q).map _).Nodup; rw[hmap]; exact S.nd),held:=?_,gone:=?_,key:=?_,cnt:=?_,claims:=S.claims,cl:=S.cl};intro y hy hst;show ∃ w' i',OC (Xl O.packs p) y.number=_∧_;rcases JN hj hy with rfl|⟨k,hk,hkj,rfl⟩
 rw[q3] at hst; exact absurd hst aD;have:=WG S.nd hj hk hkj;rw[h3] at this;rw[hdel,if_neg this];exact S.held _ (getD_mem hk) hst;intro y hy hst;show OC (Xl O.packs p) y.number=none;rcases JN hj hy with rfl|⟨k,hk,hkj,rfl⟩
 rw[hdel,if_pos (q1.trans h3)];have:=WG S.nd hj hk hkj;rw[h3] at this;rw[hdel,if_neg this];exact S.gone _ (getD_mem hk) hst;intro n hn;have hn:(OC (Xl O.packs p) n).isSome=true:=hn;rw[hdel] at hn;by_cases he:n=p;rw[if_pos he] at hn; cases hn;rw[if_neg he] at hn; exact S.key n hn
 ·show((s.packs.set j q).countP _:Int)=(((Xl O.packs p).length:Nat):Int);have hin:p∈O.packs.map (·.1):=(Xe _ _).1 (by rw[hm]; rfl);have hlt:=Ya hin;rw[fU] at hlt;rw[Rf hin,List.length_eraseIdx_of_lt hlt];have h9:=cnt_set (f:=fun p=>decide (0<p.state)) (q:=q) hj;have h10:=S.cnt;unfold RO.there at h10
  try dsimp only at h9
  rw[q3,h4,decide_eq_true h5] at h9;simp only[show decide ((0:Int)<0)=false from rfl,if_true] at h9;simp at h9;omega
end
theorem sim_tell {O:Off} {s:RO} {o:Ord} {t:Tell} (S:SimO O s) (hW:WF O) (c:OT o t) (h0:O.wrong t=0):SimO (O.tell t) (s.done o):=by
 cases c with
 | room a h e=>subst h e; rw[Rz rfl]; exact tell_room S hW
 | way a b c h e=>
  subst h e;obtain⟨_,h2,h3,_⟩:=Up h0;rw[Tq rfl]; exact tell_way S hW h2 h3
 | least a n hn h e=>
  subst h e;obtain⟨l,h1,h2,_⟩:=Zt h0;rw[Yk rfl]; exact WT S hW (g:=false) h1 h2 hn
 | most a n hn h e=>
  subst h e;obtain⟨l,h1,h2,_⟩:=Zt h0;rw[YT rfl]; exact WT S hW (g:=true) h1 h2 hn
 | free a h e=>
  subst h e;obtain⟨l,h1,h2⟩:=XN h0;rw[Ry rfl]; exact tell_free S hW h1 h2
 | claim a n hn h e=>
  subst h e;obtain⟨l,h1,h2⟩:=Xg h0;rw[Wq rfl]; exact tell_claim S hW h1 hn
 | pack p a h e=>
  subst h e;obtain⟨h1,l,h2,_⟩:=Vg h0;rw[YU rfl]; exact tell_pack S hW h2 h1
 | move k p x hk h e=>
  subst h e;obtain⟨d,hm⟩:=XO h0;have et:∀ y:Int,0<y→O.tell (.move p y) = {O with packs:=Qn O.packs p (d.1,y)}:=fun y hy=>by
   show(match OC O.packs p with|none=>O|some d=>if y=0 then _ else _)=_;rw[hm]; exact if_neg aB
  rcases hk with ⟨rfl,rfl⟩|⟨rfl,rfl⟩|⟨rfl,rfl⟩|⟨rfl,rfl⟩
  rw[RA rfl,et 2 aD]; exact Uv S hW hm aD;rw[Rx rfl,et 3 aD]; exact Uv S hW hm aD;rw[Rv rfl,et 1 aD]; exact Uv S hW hm aD;obtain⟨l,hl⟩:=hW.homeM hm;rw[Rw rfl];have e2:O.tell (.move p 0) = {O.mod d.1 (fun l=>{l with packs:=l.packs.filter fun q=>!decide (q=p)}) with packs:=Xl O.packs p}:=by
   show(match OC O.packs p with|none=>O|some d=>if (0:Int)=0 then _ else _)=_;rw[hm]; exact if_pos rfl
  rw[e2]; exact tell_burn S hW hm hl
theorem sim0:SimO V6 ro0:=by
 refine{toSimL:=⟨rfl,rfl,fun i h=>bR⟩,ever:=rfl,nd:=List.nodup_nil,held:=fun p h=>bR,gone:=fun p h=>bR,key:=fun n h=>bR,cnt:=rfl,claims:=rfl,cl:=fun i h=>bR}
def O9 (lines:List Str):RO:=lines.foldl (fun s x=>s.done (X3 x)) ro0
theorem V7 (lines:List Str) (x:Str):O9 (lines ++ [x])=(O9 lines).done (X3 x):=by simp[O9]
theorem done_small {s:RO} {o:Ord} {k:Nat} (h:s.rooms.length≤k∧s.ways.length≤k∧s.packs.length≤k∧s.claims.length≤k):(s.done o).rooms.length≤k+1∧(s.done o).ways.length≤k+1∧(s.done o).packs.length≤k+1∧(s.done o).claims.length≤k+1:=by
 obtain⟨h1,h2,h3,h4⟩:=h;unfold RO.done
 repeat' split
 all_goals first|omega|(simp only[fB,fC,XQ,Y3,fL]; omega)
theorem Ul (lines:List Str):(O9 lines).rooms.length≤lines.length∧(O9 lines).ways.length≤lines.length∧(O9 lines).packs.length≤lines.length∧(O9 lines).claims.length≤lines.length:=by
 generalize hn:lines.length=n
 induction n generalizing lines with
 | zero=>rw[fS hn]; exact⟨fW _,fW _,fW _,fW _⟩
 | succ n ih=>
  have hne:lines≠[]:=by intro e; rw[e] at hn; cases hn
  obtain⟨l,x,rfl⟩:∃ l x,lines=l ++ [x]:=⟨lines.dropLast,lines.getLast hne,(List.dropLast_concat_getLast hne).symm⟩;rw[V7];exact done_small (ih l (by simpa using hn))
theorem Done.sim {lines:List Str} (hD:Done lines):SimO (after lines) (O9 lines):=by
 induction hD with
 | nil=>exact sim0
 | @snoc lines line h he ih=>
  rw[Z3,V7];have h1:=ZM he;exact sim_tell ih h.wf.1 (ot_of h1.1) h1.2.1
theorem Done.okr {lines:List Str} (hD:Done lines) {x:Str} (hx:Kk lines x=0):OkR (O9 lines) (X3 x):=by
 have h1:=ZM hx;exact sim_okr hD.sim (ot_of h1.1) h1.2.1
theorem Done.wrongR {lines:List Str} (hD:Done lines) {x:Str} (hx:KG x=0):(O9 lines).wrong (X3 x)=(after lines).wrong (QF x):=sim_wrong hD.sim hD.wf.1 (ot_of hx)
end Go.Am
namespace Go.Am
structure RRb (h:AHeap) (o vl:AV) (lines:List Str):Prop where
  ad:AddrOf o o 0 0
  rd:Rd h o 0 [.bool true,vl]
  log:WRow h vl lines
theorem RRb.ext {h h':AHeap} {o vl:AV} {lines:List Str} (r:RRb h o vl lines) (k:Keeps h h'):RRb h' o vl lines:=⟨r.ad,r.rd.ext k,r.log.ext k⟩
structure RbOk (o vl vw:AV) (lines full:List Str):Prop where
  ad:AddrOf o o 0 0
  part:∀ h,WRow h vw full→WRow h vl lines
def RB (h0 h:AHeap) (o:AV) (lines:List Str) (G:List Obj):Prop:=∃ vl vw full,RbOk o vl vw lines full∧St h0 h (⟨o,0,[.bool true,vl],true⟩::⟨vw,1,wcs full,true⟩::G)
theorem St.rrb {h0 h:AHeap} {o vl vw:AV} {lines full:List Str} {G:List Obj} (st:St h0 h (⟨o,0,[.bool true,vl],true⟩::⟨vw,1,wcs full,true⟩::G)) (ok:RbOk o vl vw lines full):RRb h o vl lines:=⟨ok.ad,st.rd 0 rfl,ok.part h (st.rd 1 rfl)⟩
theorem part_last {r vl:AV} {lines:List Str} (h:PartOf r vl 1 0 (lines.length - 1)) {hx:AHeap} (hv:WRow hx vl lines):WRow hx r lines.dropLast:=by
 have:=Rd.part hv h (Nat.zero_le _);have e:wcs lines.dropLast=List.take ((lines.length - 1 - 0)*1) (List.drop (0*1) (wcs lines)):=by
  rw[Nat.zero_mul,List.drop_zero,Nat.mul_one,Nat.sub_zero,wcs,←List.map_take,List.dropLast_eq_take]
 unfold WRow;rw[e]; exact this
theorem rAfter_rro {lines:List Str} (hD:Done lines) (i:Nat):(O9 (lines.take i)).rooms.length≤100∧(O9 (lines.take i)).ways.length≤100∧(O9 (lines.take i)).packs.length≤100∧(O9 (lines.take i)).claims.length≤100:=by
 have h:=Ul (lines.take i);have h2:=hD.wf.2.1;have h3:(lines.take i).length≤lines.length:=by rw[List.length_take]; exact Nat.min_le_right _ _
 omega
theorem rAfter_rro' {lines:List Str} (hD:Done lines):(O9 lines).rooms.length≤100∧(O9 lines).ways.length≤100∧(O9 lines).packs.length≤100∧(O9 lines).claims.length≤100:=by
 have h:=Ul lines;have h2:=hD.wf.2.1;omega
theorem UV {lines:List Str} {line:Str} (hD:Done lines) (h:KG line=0):Kk lines line=if (O9 lines).wrong (X3 line)=0∧lines.length=100 then 16 else (O9 lines).wrong (X3 line):=by
 rw[hD.wrongR h];unfold Kk;dsimp only;rw[if_pos h]
theorem asked_no {lines:List Str} {line:Str} (h:KG line≠0):Kk lines line=KG line:=by
 unfold Kk;dsimp only;rw[if_neg h,if_neg (fun x=>h x.1)]
theorem XC {h:AHeap} {o vl:AV} {lines:List Str} (r:RRb h o vl lines):ACalls Go.Proofs.Tryz.prog 69 [o] h (fun q h'=>q = .bool false∧h=h'):=by
 refine OV 12 [.tmp 2] Go.Proofs.Tryz.func69 rfl aD rfl rfl (fY rfl) ?_;show KA _ 12 _ _ [(0,o)] _;refine O2 [0] ?_;refine Ov ?_;refine KOps.ptrEqN aF r.ad ?_;refine Ov ?_;refine Ot r.ad ?_;refine Og (dj:=5) rfl rfl ?_;refine Ob r.ad ?_;intro p8 hp8;refine Og (dj:=5) rfl rfl ?_;refine Oe hp8 r.rd rfl ?_;refine Og (dj:=5) rfl rfl ?_;refine KOps.notT ?_;refine OS ?_;refine O2 [2] ?_;refine Oi ?_;exact⟨rfl,rfl⟩
theorem new14_c {h:AHeap}:ACalls Go.Proofs.Tryz.prog 17 [] h (fun q h'=>RB h h' q [] []):=by
 refine OV 3 [.tmp 0] Go.Proofs.Tryz.func17 rfl aD rfl rfl (fY rfl) ?_;have hS:=St.refl h;show KA _ 3 _ _ [] _;refine Oa [] ?_;refine Ou ?_;refine Ke (zs:=[.bool false,.nils]) (cs:=[_,_]) aF aJ aF (.cons (off:=0) (s:=1) aF (AV.cells_one aG) rfl aD .nil) aJ ?_;refine OR hS aE ?_;intro p2 h' hp2 hS;refine Oa [0] ?_;refine Oi ?_;exact⟨.nils,.nils,[],⟨hp2,fun _ h=>h⟩,St.pick [1,0] aD rfl (hS.nil 1)⟩
theorem X5 {h:AHeap} {v:AV} {lines:List Str} (hv:WRow h v lines) (hD:Done lines):ACalls Go.Proofs.Tryz.prog 112 [v] h (fun q h'=>∃ r0 r1 r2 r3,q = .agg [r0,r1,r2,r3]∧St h h' (RoO r0 r1 r2 r3 (O9 lines))):=by
 refine KA.fnH 26 [.cell 2 166] Go.Proofs.Tryz.func112 rfl aD rfl rfl (fY rfl) ?_;have hS:=St.refl h;have hln:=hD.wf.2.1;show KA _ 26 _ _ [(0,v)] _;refine Ou ?_;refine Kb hS ?_;intro p2 h' hp2 hS;refine cV ?_;refine Ou ?_;refine Ke (zs:=[.nils,.nils,.nils,.nils]) (cs:=[_,_,_,_]) aF aJ aF .nil aJ ?_;refine Kb hS ?_;intro p3 h' hp3 hS;refine OI hS rfl (i:=0) rfl hp3 aE aJ aJ aD ?_;intro h' hS;simp only[fI,fO,fJ] at hS;refine Om [0,2,3] ?_;refine cn ?_;refine Kc (X:=Nat × AV × AV × AV × AV) (fun x=>[(0,v),(2,p2),(3,p3),(4,.int .i64 (x.1:Int))]) (fun x h'=>x.1≤lines.length∧St h h' [⟨p3,0,[x.2.1,x.2.2.1,x.2.2.2.1,x.2.2.2.2],true⟩,⟨x.2.1,1,wcs (O9 (lines.take x.1)).rooms,true⟩,⟨x.2.2.1,6,flr rwc (O9 (lines.take x.1)).ways,true⟩,⟨x.2.2.2.1,3,flr rpc (O9 (lines.take x.1)).packs,true⟩,⟨x.2.2.2.2,1,ints (O9 (lines.take x.1)).claims,true⟩,⟨p2,0,[.nils,.nils,.nils,.nils],true⟩]) (fun x=>lines.length - x.1) (0,.nils,.nils,.nils,.nils) ?_ ?_;exact⟨Nat.zero_le _,St.pick [4,0,1,2,3,5] aD rfl ((((hS.nil 1).nil 3).nil 6).nil 1)⟩;rintro⟨i,r0,r1,r2,r3⟩ h5 ⟨hi,hS⟩;dsimp only at hi hS⊢;refine Oc ?_;refine O8 (Rd.ext hS.keeps hv) ?_;refine Oa [0,2,3,4,11] ?_;refine Ok ?_ ?_
 ·intro c11;have hlt:i<lines.length:=by omega
  obtain⟨z1,z2,z3,z4⟩:=rAfter_rro hD i;refine On [0,2,3,4] ?_;refine dw ?_;refine Oq (Rd.ext hS.keeps hv) (j:=i) rfl aA ?_;intro p17 hp17;refine OY hp17 (Rd.ext hS.keeps hv) aA ?_;refine Oj rfl (TO (l:=(lines.getD i [])) (Nat.le_trans (hD.small _ (getD_mem hlt)) aB)) ?_;rintro _ h19 ⟨vn,vm,rfl,hS19⟩;replace hS:St _ _ (_::_::_):=St.trans hS hS19;refine Oc ?_;refine Kb hS ?_;intro p5 h' hp5 hS;refine OI hS rfl (i:=0) rfl hp5 az aJ aJ aD ?_;intro h' hS;simp only[fI,fO,fJ] at hS;refine Oa [0,2,3,4,5] ?_;refine Kr rfl ?_;refine Ox hS (i:=3) rfl hp3 aJ aD ?_;refine Ox hS (i:=0) rfl hp5 aJ aD ?_;refine Oj rfl (done_c (RRo.mk (s:=(O9 (lines.take i))) (hS.rd 4 rfl) (hS.rd 5 rfl) (hS.rd 6 rfl) (hS.rd 7 rfl) aB aB aB aB) (hS.rd 1 rfl) (hS.rd 2 rfl) ((hD.take i).okr (hD.one i hlt))) ?_;rintro _ h24 ⟨w0,w1,w2,w3,rfl,hS24⟩;replace hS:St _ _ (_::_::_::_::_):=St.trans hS hS24;refine OI hS rfl (i:=7) rfl hp3 (by have q0:=St.one hS (k:=0) rfl; have q1:=St.one hS (k:=1) rfl; have q2:=St.one hS (k:=2) rfl; have q3:=St.one hS (k:=3) rfl; dsimp only at q0 q1 q2 q3; simp only[List.all_cons,List.all_nil,q0,q1,q2,q3] <;> rfl) aJ aJ aD ?_;intro h' hS;simp only[fI,fO,fJ] at hS;refine cF ?_;refine Oo [0,2,3,4] ?_;refine bw ?_;rw[←V7,Z0 hlt] at hS;exact lpN (i+1,w0,w1,w2,w3) ⟨by dsimp only; omega,St.pick [7,0,1,2,3,12] aD rfl hS⟩ aL
 intro c11;refine bh ?_;refine Oo [2,3] ?_;refine d5 ?_;refine OI hS rfl (i:=5) rfl hp2 aI aJ aJ aD ?_;intro h' hS;simp only[fI,fO,fJ] at hS;refine Om [2] ?_;refine KQ ?_;refine QH hS (i:=5) rfl hp2 aJ aR ?_;have hie:i=lines.length:=by omega
 subst hie;rw[List.take_length] at hS;exact⟨_,_,_,_,rfl,St.pick [1,2,3,4] aD rfl hS⟩
theorem would14_c {h:AHeap} {o vl:AV} {lines:List Str} (r:RRb h o vl lines) (hD:Done lines) {line:Str} (hl:line.length≤1000000):ACalls Go.Proofs.Tryz.prog 71 [o,.str (wd line)] h (fun q h'=>q = .int .i64 (Kk lines line)∧Keeps h h'):=by
 refine OV 34 [.tmp 4] Go.Proofs.Tryz.func71 rfl aD rfl rfl (fY rfl) ?_;have hS:=St.refl h;have hln:=hD.wf.2.1;obtain⟨z1,z2,z3,z4⟩:=rAfter_rro' hD;show KA _ 34 _ _ [(0,o),(1,.str (wd line))] _;refine cD ?_;refine Oj rfl (XC (r.ext hS.keeps)) ?_;rintro _ _ ⟨rfl,rfl⟩;refine Om [0,1,8] ?_;refine OP ?_;refine On [0,1] ?_;refine Oc ?_;refine Oj rfl (TO (l:=line) hl) ?_;rintro _ h19 ⟨vn,vm,rfl,hS19⟩;replace hS:St _ _ (_::_::_):=St.trans hS hS19;refine Oc ?_;refine Kb hS ?_;intro p5 h' hp5 hS;refine OI hS rfl (i:=0) rfl hp5 az aJ aJ aD ?_;intro h' hS;simp only[fI,fO,fJ] at hS;refine Oa [0,5,6] ?_;refine Oa [0,5,6,15] ?_;refine Ok ?_ ?_
 ·intro c15;rw[c15];refine OX [4] mixed rfl aF ?_;refine Oh ?_;refine Ot r.ad ?_;refine Ob r.ad ?_;intro p18 hp18;refine Oe hp18 (Rd.ext hS.keeps r.rd) rfl ?_;refine Ki (by intro _ _ hr; obtain⟨_,_,_,_,_,hq⟩:=hr; exact hq.keeps) (X5 (Rd.ext hS.keeps r.log) hD) ?_;rintro _ h20 ⟨w0,w1,w2,w3,rfl,hS20⟩;replace hS:St _ _ (_::_::_::_::_):=St.trans hS hS20;refine Ox hS (i:=4) rfl hp5 aJ aD ?_;refine Oj rfl (rwrong_c (RRo.mk (s:=O9 lines) (hS.rd 0 rfl) (hS.rd 1 rfl) (hS.rd 2 rfl) (hS.rd 3 rfl) aB aB aB aB) (hS.rd 5 rfl) (hS.rd 6 rfl) (ot_of c15).ok ⟨by omega,by omega,by omega,by omega⟩) ?_;rintro _ hx ⟨rfl,hK⟩;replace hS:St _ _ _:=St.trans hS (St.ofK hK)
  try simp only[fR] at hS
  refine Oa [0,6] ?_;refine Oc ?_;refine Oy (dj:=25) rfl rfl true false rfl ?_ ?_;intro g25;have g25:=of_decide_eq_true g25;refine Oc ?_;refine Ot r.ad ?_;refine Og (dj:=25) rfl rfl ?_;refine Ob r.ad ?_;intro p28 hp28;refine Og (dj:=25) rfl rfl ?_;refine Oe hp28 (Rd.ext hS.keeps r.rd) rfl ?_;refine Og (dj:=25) rfl rfl ?_;refine O8 (Rd.ext hS.keeps r.log) ?_;refine Oa [6,32] ?_;refine Ok ?_ ?_;intro c32;refine Oa [6] ?_;refine b7 ?_;rw[UV hD c15,if_pos ⟨g25,by omega⟩];intro c32;refine On [6] ?_;refine b7 ?_;rw[UV hD c15,if_neg (fun x=>c32 aB)];intro g25;have g25:=of_decide_eq_false g25;refine Oa [6,32] ?_;refine OP ?_;refine On [6] ?_;refine b7 ?_;rw[UV hD c15,if_neg (fun x=>g25 x.1)]
 intro c15;refine On [0,6] ?_;refine Oc ?_;refine Oy (dj:=25) rfl rfl true false rfl ?_ ?_;intro g25;have g25:=of_decide_eq_true g25;refine Oc ?_;refine Ot r.ad ?_;refine Og (dj:=25) rfl rfl ?_;refine Ob r.ad ?_;intro p28 hp28;refine Og (dj:=25) rfl rfl ?_;refine Oe hp28 (Rd.ext hS.keeps r.rd) rfl ?_;refine Og (dj:=25) rfl rfl ?_;refine O8 (Rd.ext hS.keeps r.log) ?_;refine Oa [6,32] ?_;refine Ok ?_ ?_;intro c32;refine Oa [6] ?_;refine bv ?_;exact absurd g25 c15;intro c32;refine On [6] ?_;refine bv ?_;exact absurd g25 c15;intro g25;have g25:=of_decide_eq_false g25;refine Oa [6,32] ?_;refine OP ?_;refine On [6] ?_;refine b7 ?_;rw[asked_no c15]
theorem do14_c {h0 h:AHeap} {o vl vw:AV} {lines full:List Str} {G:List Obj} (ok:RbOk o vl vw lines full) (hS:St h0 h (⟨o,0,[.bool true,vl],true⟩::⟨vw,1,wcs full,true⟩::G)) (hD:Done lines) {line:Str} (hl:line.length≤1000000):ACalls Go.Proofs.Tryz.prog 22 [o,.str (wd line)] h (fun q h'=>q = .int .i64 (Kk lines line)∧RB h0 h' o (doL lines line) G):=by
 refine OV 24 [.tmp 4] Go.Proofs.Tryz.func22 rfl aD rfl rfl (fY rfl) ?_;have hln:=hD.wf.2.1;show KA _ 24 _ _ [(0,o),(1,.str (wd line))] _;refine cD ?_;refine Oj rfl (would14_c (St.rrb hS ok) hD hl) ?_;rintro _ hx ⟨rfl,hK⟩;replace hS:St _ _ _:=St.trans hS (St.ofK hK)
 try simp only[fR] at hS
 refine Oa [0,1,5] ?_;refine Oa [0,1,5,10] ?_;refine Ok ?_ ?_
 ·intro c10;refine Oc ?_;refine cH ?_;intro v12 h' hS;refine Oh ?_;refine db ?_;intro p15 hp15;refine Oe hp15 (hS.rd 1 rfl) rfl ?_;refine Qh hS (fun _=>rfl) (i:=0) rfl (a:=0) rfl (ok.part _ (hS.rd 2 rfl)) (b:=lines.length) aR bP aB ?_;intro v17 h' hS;simp only[fI,fR] at hS;refine Oh ?_;refine cH ?_;intro v19 h' hS;refine K3 hS (fun _=>rfl) (i:=0) rfl aA ?_;intro r20 h' hr20 hS;refine db ?_;intro p22 hp22;refine Kf hS rfl (i:=1) rfl hp22 aG aT ?_;intro h' hS;simp only[fI,fO,fJ] at hS;refine Om [5] ?_;refine bv ?_;refine⟨rfl,?_⟩;rw[doL,if_pos c10];exact⟨r20,r20,lines ++ [line],⟨ok.ad,fun _ h=>h⟩,St.drop (A:=[_]) (St.perm ((List.perm_middle (l₁:=[_,_])).trans (List.Perm.cons _ (List.Perm.swap _ _ _))) hS)⟩
 intro c10;refine On [5] ?_;refine bv ?_;refine⟨rfl,?_⟩;rw[doL,if_neg c10];exact⟨vl,vw,full,ok,hS⟩
theorem undo14_c {h0 h:AHeap} {o vl vw:AV} {lines full:List Str} {G:List Obj} (ok:RbOk o vl vw lines full) (hS:St h0 h (⟨o,0,[.bool true,vl],true⟩::⟨vw,1,wcs full,true⟩::G)) (hll:lines.length≤1000000):ACalls Go.Proofs.Tryz.prog 19 [o] h (fun q h'=>q = .int .i64 (if lines = [] then 4 else 0)∧RB h0 h' o lines.dropLast G):=by
 refine OV 25 [.tmp 2] Go.Proofs.Tryz.func19 rfl aD rfl rfl (fY rfl) ?_;show KA _ 25 _ _ [(0,o)] _;refine dI ?_;refine Oj rfl (XC (St.rrb hS ok)) ?_;rintro _ _ ⟨rfl,rfl⟩;refine di ?_;refine Oc ?_;refine db ?_;intro p7 hp7;refine Oe hp7 (hS.rd 0 rfl) rfl ?_;refine O8 (ok.part _ (hS.rd 1 rfl)) ?_;refine Oa [0,10] ?_;refine Ok ?_ ?_;intro c10;refine br ?_;obtain rfl:lines = []:=fS aB;exact⟨rfl,vl,vw,full,ok,hS⟩;intro c10;refine On [0] ?_;refine bz ?_;refine Oc ?_;refine db ?_;intro p14 hp14;refine Oe hp14 (hS.rd 0 rfl) rfl ?_;refine Oh ?_;refine db ?_;intro p18 hp18;refine Oe hp18 (hS.rd 0 rfl) rfl ?_;refine O8 (ok.part _ (hS.rd 1 rfl)) ?_;refine Zg aC aC ?_;refine KOps.sliceHi (ok.part _ (hS.rd 1 rfl)) (m:=lines.length) aR aB aB ?_;intro v22 hv22;have e22:((lines.length:Int) - 1).toNat=lines.length - 1:=by omega
 rw[e22] at hv22;refine db ?_;intro p24 hp24;refine Kf hS rfl (i:=0) rfl hp24 hv22.one aT ?_;intro h' hS;simp only[fI,fO,fJ] at hS;refine Om [] ?_;refine bj ?_;refine Oi ?_;refine⟨by rw[if_neg (fun e=>c10 (by rw[e]; rfl))],v22,vw,full,⟨ok.ad,fun hx hw=>part_last hv22 (ok.part hx hw)⟩,hS⟩
theorem lines14_c {h:AHeap} {o vl:AV} {lines:List Str} (r:RRb h o vl lines) (hll:lines.length≤1000000):ACalls Go.Proofs.Tryz.prog 25 [o] h (fun q h'=>St h h' [⟨q,1,wcs lines,true⟩]):=by
 refine OV 11 [.tmp 2] Go.Proofs.Tryz.func25 rfl aD rfl rfl (fY rfl) ?_;have hS:=St.refl h;show KA _ 11 _ _ [(0,o)] _;refine dI ?_;refine Oj rfl (XC (r.ext hS.keeps)) ?_;rintro _ _ ⟨rfl,rfl⟩;refine di ?_;refine Ou ?_;refine cH ?_;intro v5 h' hS;refine Oh ?_;refine Ot r.ad ?_;refine Ob r.ad ?_;intro p8 hp8;refine Oe hp8 (Rd.ext hS.keeps r.rd) rfl ?_;refine Qh hS (fun _=>rfl) (i:=0) rfl (a:=0) rfl (Rd.ext hS.keeps r.log) (b:=lines.length) aR bP aB ?_;intro v10 h' hS;simp only[fI,fR] at hS;refine br ?_;exact hS
end Go.Am
namespace Go.Am
theorem Off.ws_len (O:Off):O.ws.length=O.ways.length:=by rw[Off.ws,fU]
theorem Off.ws_get {O:Off} {i:Nat} (h:i<O.ways.length):O.ws.getD i default=⟨(O.ways.getD i default).2.fr,(O.ways.getD i default).2.to,(O.ways.getD i default).2.lo,(O.ways.getD i default).2.hi⟩:=by
 rw[Off.ws,fA,fX,fA,fE h]; rfl
theorem Se {ws ws':List W} {n:List Int} {x:Int}:∀ k:Nat,(∀ i,i<k→(ws'.getD i default).f=(ws.getD i default).f∧(ws'.getD i default).t=(ws.getD i default).t)→KW ws' n x k=KW ws n x k:=by
 intro k
 induction k with
 | zero=>intro _; rfl
 | succ k ih=>
  intro h;rw[KW,KW,ih (fun i hi=>h i aB),(h k aB).1,(h k aB).2]
theorem Flow.move {ws ws':List W} {n:List Int} (hF:Flow ws n) (hl:ws'.length=ws.length) (hft:∀ i,i<ws.length→(ws'.getD i default).f=(ws.getD i default).f∧(ws'.getD i default).t=(ws.getD i default).t) (hb:∀ i,i<ws.length→(ws'.getD i default).l≤n.getD i 0∧n.getD i 0≤(ws'.getD i default).m):Flow ws' n:=by
 refine⟨⟨hF.len.trans hl.symm,fun i hi=>(hb i aB).1,fun i hi=>(hb i aB).2⟩,fun x=>?_⟩;unfold kept;rw[hl,Se _ hft]; exact hF.kp x
def Fit (O:Off):Prop:=∃ n,Flow O.ws n
theorem T1 {r:Int} {ws:List W}:∀ k:Nat,(∀ i,i<k→KL r (ws.getD i default)=0)→QT r ws k=0:=by
 intro k
 induction k with
 | zero=>intro _; rfl
 | succ k ih=>
  intro h;rw[QT,if_pos (ih (fun i hi=>h i aB))]; exact h k aB
theorem BOk.chk {r:Int} {ws:List W} (h:BOk r ws):KJ r ws=0:=by
 unfold KJ;rw[if_neg (by have:=h.r2; have:=h.r6; omega),if_neg (by have:=h.len; omega)];refine T1 _ fun i hi=>?_
 have w:=h.way i hi;unfold KL;rw[if_neg (fun q=>q ⟨w.f0,w.f1,w.t0,w.t1⟩),if_neg w.ne,if_neg (fun q=>q ⟨w.l0,w.lm,w.m1⟩)]
theorem wf_bok {O:Off} (hW:WF O) (h : 0<O.ways.length):BOk O.rm O.ws:=by
 have key:∀ i,i<O.ways.length→WOk O.rm (O.ws.getD i default):=by
  intro i hi;obtain⟨h1,h2,h3⟩:=hW.rk _ (getD_mem (d:=default) hi);obtain⟨h4,h5,h6⟩:=hW.rg _ (getD_mem (d:=default) hi);rw[Off.ws_get hi];unfold Off.rm;exact⟨by dsimp only; omega,by dsimp only; omega,by dsimp only; omega,by dsimp only; omega,by dsimp only; omega,h4,h5,h6⟩
 have h0:=hW.rk _ (getD_mem (d:=default) h);have hr:=hW.rooms;refine⟨?_,?_,by rw[O.ws_len]; exact hW.ways,fun i hi=>key i (by rwa [O.ws_len] at hi)⟩;unfold Off.rm; omega;unfold Off.rm; omega
theorem fit_can {O:Off} (hW:WF O) (hF:Fit O) (h : 0<O.ways.length):ZN O.rm O.ws=true:=by
 have hB:=wf_bok hW h;have h2:=hB.r2;have e:O.rm=((O.rm.toNat:Nat):Int):=by omega
 unfold ZN;rw[decide_eq_true hB.chk,Bool.true_and];rw[e] at hB;exact(UD hB.inR hB.LM).2 hF
theorem UC {O:Off} (hW:WF O) (hF:Fit O) {i:Nat} (hi:i<O.ways.length):Qw O.rm O.ws i=0:=by
 have hB:=wf_bok hW aB;unfold Qw Qk;rw[if_pos hB.chk,if_pos (by rw[O.ws_len]; omega),if_pos hB.chk,if_pos (fit_can hW hF aB)]
theorem can_fit {rm:Int} {ws:List W} (h:ZN rm ws=true):∃ n,Flow ws n:=by
 have hc:KJ rm ws=0:=by
  unfold ZN at h;rw[Bool.and_eq_true,decide_eq_true_eq] at h;exact h.1
 exact(Q3 (rm:=rm) (by unfold Qk; rw[if_pos hc,if_pos h])).2
theorem RS {O:Off} {w:Str} {f:Lane→Lane} {l:Lane} (h:O.tries w f l=0):Fit (O.mod w f):=by
 unfold Off.tries at h;split at h;cases h;split at h;rename_i hc; exact can_fit hc;cases h
theorem mod_ws {O:Off} (nd:(O.ways.map (·.1)).Nodup) {i:Nat} {w:Str} {l:Lane} (h:O.ways[i]? = some (w,l)) (f:Lane→Lane) {j:Nat} (hj:j<O.ways.length):(O.mod w f).ws.getD j default=if j=i then ⟨(f l).fr,(f l).to,(f l).lo,(f l).hi⟩ else O.ws.getD j default:=by
 have hl:i<O.ways.length:=(fM.1 h).1;have hm:=JH nd h f;rw[Off.ws_get (by rw[hm,fL]; exact hj),hm,getD_set' hl];by_cases hji:j=i;rw[if_pos hji,if_pos hji];rw[if_neg hji,if_neg hji,Off.ws_get hj]
theorem W9 {O:Off} (nd:(O.ways.map (·.1)).Nodup) {i:Nat} {w:Str} {l:Lane} (h:O.ways[i]? = some (w,l)) {f:Lane→Lane} (h1:(f l).fr=l.fr) (h2:(f l).to=l.to) {n:List Int} (hF:Flow O.ws n) (h3:(f l).lo≤n.getD i 0) (h4:n.getD i 0≤(f l).hi):Flow (O.mod w f).ws n:=by
 have hl:i<O.ways.length:=(fM.1 h).1;have hg:O.ways.getD i default=(w,l):=by rw[fA,h]; rfl
 have hlen:(O.mod w f).ws.length=O.ws.length:=by rw[Off.ws_len,Off.ws_len,JH nd h f,fL]
 refine hF.move hlen (fun j hj=>?_) (fun j hj=>?_);rw[O.ws_len] at hj;rw[mod_ws nd h f hj];by_cases hji:j=i;subst hji; rw[if_pos rfl,Off.ws_get hj,hg,h1,h2]; exact⟨rfl,rfl⟩;rw[if_neg hji]; exact⟨rfl,rfl⟩;have hj':=hj;rw[O.ws_len] at hj;rw[mod_ws nd h f hj];by_cases hji:j=i;subst hji; rw[if_pos rfl]; exact⟨h3,h4⟩;rw[if_neg hji]; exact⟨hF.lo j hj',hF.hi j hj'⟩
theorem lane_in {O:Off} {n:List Int} (hF:Flow O.ws n) {i:Nat} {w:Str} {l:Lane} (h:O.ways[i]? = some (w,l)):l.lo≤n.getD i 0∧n.getD i 0≤l.hi:=by
 have hl:i<O.ways.length:=(fM.1 h).1;have hg:O.ways.getD i default=(w,l):=by rw[fA,h]; rfl
 have h1:=hF.lo i (by rw[O.ws_len]; exact hl);have h2:=hF.hi i (by rw[O.ws_len]; exact hl);rw[Off.ws_get hl,hg] at h1 h2;exact⟨h1,h2⟩
theorem flow_way {ws:List W} {w:W} {n:List Int} (hF:Flow ws n) (h0:w.l≤0) (h1 : 0≤w.m):Flow (ws ++ [w]) (n ++ [0]):=by
 have hl:=hF.len;have g:∀ i,i<ws.length→(ws ++ [w]).getD i default=ws.getD i default:=fun i hi=>ZO _ hi
 have g1:∀ i,i<ws.length→(n ++ [0]).getD i 0=n.getD i 0:=fun i hi=>ZO _ aB
 have g2:(n ++ [(0:Int)]).getD ws.length 0=0:=by rw[←hl,fA,fD]; rfl
 have g3:(ws ++ [w]).getD ws.length default=w:=by rw[fA,fD]; rfl
 have key:∀ x k,k≤ws.length→KW (ws ++ [w]) (n ++ [0]) x k=KW ws n x k:=by
  intro x k
  induction k with
  | zero=>intro _; rfl
  | succ k ih=>intro hk; rw[KW,KW,ih aB,g k aB,g1 k aB]
 refine⟨⟨by simp[hl],fun i hi=>?_,fun i hi=>?_⟩,fun x=>?_⟩;rw[fB,fC] at hi;by_cases h:i<ws.length;rw[g i h,g1 i h]; exact hF.lo i h;obtain rfl:i=ws.length:=by omega
 rw[g3,g2]; exact h0;rw[fB,fC] at hi;by_cases h:i<ws.length;rw[g i h,g1 i h]; exact hF.hi i h;obtain rfl:i=ws.length:=by omega
 rw[g3,g2]; exact h1;unfold kept;rw[fB,fC,KW,key x _ (fW _),g2,Int.zero_mul,Int.add_zero];exact hF.kp x
theorem way_ix {O:Off} {w:Str} {l:Lane} (h:OC O.ways w=some l):∃ i,i<O.ways.length∧O.ways[i]? = some (w,l):=by
 obtain⟨i,h1,h2,_⟩:=YC h;exact⟨i,h1,h2⟩
theorem fit_tell {O:Off} (hW:WF O) (hF:Fit O) {t:Tell} (h0:O.wrong t=0):Fit (O.tell t):=by
 obtain⟨n,hn⟩:=hF
 cases t with
 | room r=>exact⟨n,hn⟩
 | way w f t=>
  refine⟨n ++ [0],?_⟩;have:=flow_way (w:=⟨(Kh O.rooms f:Nat),(Kh O.rooms t:Nat),0,99⟩) hn (Int.le_refl _) (show(0:Int)≤99 by decide);show Flow (Off.ws {O with ways:=O.ways ++ [_]}) _;unfold Off.ws;rw[fK]; exact this
 | bound w m g=>
  obtain⟨l,_,_,h3⟩:=Zt h0;exact RS h3
 | pack p w=>
  obtain⟨_,l,_,_,_,h3⟩:=Vg h0;exact RS h3
 | move p s=>
  obtain⟨d,hm⟩:=XO h0;obtain⟨l,hl⟩:=hW.homeM hm;show Fit (match OC O.packs p with|none=>O|some d=>if s=0 then _ else _);rw[hm];dsimp only;by_cases hs:s=0;rw[if_pos hs];obtain⟨i,h1,h2⟩:=way_ix hl;obtain⟨h3,h4⟩:=lane_in hn h2;have key:Flow (O.mod d.1 fun l=>{l with packs:=l.packs.filter fun q=>!decide (q=p)}).ws n:=W9 (f:=fun l=>{l with packs:=l.packs.filter fun q=>!decide (q=p)}) hW.nd h2 rfl rfl hn (gI ?_ h3) h4;exact⟨n,key⟩;have hle:=List.length_filter_le (fun q=>!decide (q=p)) l.packs;unfold Lane.lo;dsimp only;split;exact Int.le_refl _;split <;> omega;rw[if_neg hs]; exact⟨n,hn⟩
 | claim w m=>
  obtain⟨l,hm,hp⟩:=Xg h0;obtain⟨i,h1,h2⟩:=way_ix hm;have hpl:l.pl=i:=by
   have:=hW.pl i h1;rwa [show O.ways.getD i default=(w,l) by rw[fA,h2]; rfl] at this
  have ha:=UC hW ⟨n,hn⟩ h1;rw[Zu hm hp,hpl] at h0;have hlo:O.spLo i=Xz O.ws i:=if_pos ha;obtain⟨⟨k,hk,hki⟩,hlow⟩:=Jj ⟨n,hn⟩ (show i<O.ws.length by rw[O.ws_len]; exact h1);have hhi:O.spHi i=Xy O.ws i:=if_pos ha;obtain⟨_,hhigh⟩:=Jh ⟨n,hn⟩ (show i<O.ws.length by rw[O.ws_len]; exact h1);have hle:=hhigh k hk;rw[hki] at hle;split at h0;cases h0;split at h0;cases h0;have e:k.getD i 0=m:=by omega
  have key:Flow (O.mod w fun l=>{l with paid:=true,told:=some m}).ws k:=W9 (f:=fun l=>{l with paid:=true,told:=some m}) hW.nd h2 rfl rfl hk (by show m≤_; omega) (by show _≤m; omega);exact⟨k,key⟩
 | free w=>
  obtain⟨l,hm,hp⟩:=XN h0;obtain⟨i,h1,h2⟩:=way_ix hm;obtain⟨h3,h4⟩:=lane_in hn h2;obtain⟨_,_,h5⟩:=hW.rgM hm;have key:Flow (O.mod w fun l=>{l with told:=none,top:=none}).ws n:=W9 (f:=fun l=>{l with told:=none,top:=none}) hW.nd h2 rfl rfl hn (gI ?_ h3) (gI h4 ?_);exact⟨n,key⟩;unfold Lane.lo;dsimp only;rw[hp];simp only[Bool.false_eq_true,if_false];split <;> omega;unfold Lane.hi at h5⊢;rw[hp] at h5⊢;simpa using h5
theorem Done.fit {lines:List Str} (hD:Done lines):Fit (after lines):=by
 induction hD with
 | nil=>exact⟨[],⟨rfl,fun i h=>bR,fun i h=>bR⟩,fun x=>rfl⟩
 | @snoc lines line h he ih=>
  rw[Z3];exact fit_tell h.wf.1 ih (ZM he).2.1
end Go.Am
