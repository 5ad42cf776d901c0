/-
  Layer 14: what is wrong with a line is the same in the reference's office (plain).
  Conditions: none.
-/
import Derived.Test.YtgnogfjajnnaoaaGreatDoorOm
import Derived.Test.YtgnogfjajnnaoaaGreatDoorCab
open Int renaming toNat_natCast → fK
open List renaming getD_eq_getElem?_getD → fA, getElem?_eq_getElem → fE, set_cons_zero → fI, length_append → fO, set_cons_succ → fY, length_map → fC, mem_singleton → fD, length_singleton → fF, filter_cons → fG, map_cons → fH, mem_append → fJ, getElem?_concat_length → fL, mem_map → fM, countP_cons → fP, map_append → fQ, nil_append → fR, drop_append_of_le_length → fS, getD_cons_zero → fT, getD_cons_succ → fV, take_length → fX, filter_cons_of_neg → fZ, filter_cons_of_pos → gA, length_set → gE, drop_eq_nil_of_le → gI, getElem?_map → gO, append_assoc → gU, length_take → gB, nodup_cons → gC
open Nat renaming le_of_ble_eq_true → fU, le_refl → fB, zero_add → fN, add_sub_cancel → fW, zero_le → gY
set_option maxRecDepth 99999
set_option maxHeartbeats 4000000
namespace Go.Am
theorem wr_room {s:RO} {o:Ord} (h:o.kind=ON):s.wrong o=s.built o:=if_pos (.inl h)
theorem wr_way {s:RO} {o:Ord} (h:o.kind=O0):s.wrong o=s.built o:=if_pos (.inr h)
theorem wr_pack {s:RO} {o:Ord} (h:o.kind=OO):s.wrong o=s.came o:=by unfold RO.wrong; rw[h]; rfl
theorem Jb {s:RO} {o:Ord} (h1:¬ (o.kind=ON∨o.kind=O0)) (h2:o.kind≠OO):s.wrong o=if o.names = [] then s.moved o else s.told o:=by unfold RO.wrong; rw[if_neg h1,if_neg h2]
theorem VK {O:Off} {s:RO} (S:SimO O s) {o:Ord} (hm:OC O.ways o.n0=none):s.told o=2:=by
 unfold RO.told; rw[S.findN hm,if_pos aD]
theorem VM {O:Off} {s:RO} (S:SimO O s) {o:Ord} {l:Lane} (hm:OC O.ways o.n0=some l) (hp:l.paid=true):s.told o=20:=by
 obtain⟨i,h1,h2,h3,h4,_⟩:=S.findS hm;have r:=S.lane i h2;rw[h4] at r;obtain⟨n,_,h5,h6⟩:=r.paid hp;unfold RO.told; rw[h1,if_neg aB,fK,h6,if_pos h5]
theorem VL {O:Off} {s:RO} (S:SimO O s) {o:Ord} {l:Lane} (hm:OC O.ways o.n0=some l) (hp:l.paid=false):∃ i:Nat,s.find o.n0=i∧O.ways[i]? = some (o.n0,l)∧i<O.ways.length∧s.told o=if o.kind=OV then 0 else if o.kind≠OE then s.narrowed o else if ¬ (s.spl i≤o.m0∧o.m0≤s.sph i) then 14 else if s.spl i<s.sph i then 21 else 0:=by
  obtain⟨i,h1,h2,h3,h4,_⟩:=S.findS hm;have r:=S.lane i h2;rw[h4] at r;obtain⟨h5,_⟩:=r.free hp;refine⟨i,h1,h3,h2,?_⟩;unfold RO.told; rw[h1,if_neg aB,fK,h5,if_neg aD]
theorem spl_is {O:Off} {s:RO} (S:SimO O s) (i:Nat):s.spl i=O.spLo i∧s.sph i=O.spHi i:=by
 unfold RO.spl RO.sph Off.spLo Off.spHi;rw[S.ws,S.rm]; exact⟨rfl,rfl⟩
theorem Wj {s:RO} {i:Nat} {w:RW} (hi:i<s.ways.length) (hw:w.name=(s.ways.getD i default).name) {k:Str}:({s with ways:=s.ways.set i w}:RO).find k=s.find k:=Jp hi hw
theorem sim_wrong {O:Off} {s:RO} {o:Ord} {t:Tell} (S:SimO O s) (hW:WF O) (c:OT o t):s.wrong o=O.wrong t:=by
  cases c with
  | room a h e=>
    subst h e;rw[wr_room rfl];unfold RO.built;rw[if_pos rfl];show(if 0≤s.room a then (6:Int) else if s.rooms.length=6 then 3 else 0)=if a∈O.rooms then 6 else if O.rooms.length=6 then 3 else 0
    rw[S.rooms];by_cases h:a∈O.rooms
    · rw[if_pos h,if_pos (S.room.2 h)]
    · rw[if_neg h,if_neg (fun x=>h (S.room.1 x))]
  | way a b c h e=>
    subst h e;rw[wr_way rfl,Z1];unfold RO.built;rw[if_neg (show¬ O0=ON by decide)];show(if 0≤s.find a then (6:Int) else if s.room b<0∨s.room c<0 then 2 else if b=c then 13 else if s.ways.length=12 then 3 else 0)=_;have h1 : 0≤s.find a↔(OC O.ways a).isSome=true:=by
      rw[RO.find,S.names,ixE_nn,Xd]
    have h2:(s.room b<0∨s.room c<0)↔(b ∉ O.rooms∨c ∉ O.rooms):=by rw[S.roomL,S.roomL]
    rw[S.len];simp only[h1,h2]
  | least a n h0 h e=>
    subst h e;rw[Jb (show¬ (OG=ON∨OG=O0) by decide) (show OG≠OO by decide),if_neg aR]
    cases hm:OC O.ways a with
    | none=>rw[VK S (o:=⟨OG,[a],[n]⟩) hm,ZZ (by rw[opE,hm]; decide),opE,hm]
    | some l=>
      cases hp:l.paid with
      | true=>rw[VM S (o:=⟨OG,[a],[n]⟩) hm hp,ZZ (by rw[opE,hm]; simp[hp]),opE,hm]; simp[hp]
      | false=>
        obtain⟨i,h1,h2,h3,h4⟩:=VL S (o:=⟨OG,[a],[n]⟩) hm hp;rw[h4,YK hm hp,if_neg (show¬ OG=OV by decide),if_pos (show OG≠OE by decide)];have hd:=Yg (s:=s) (o:=⟨OG,[a],[n]⟩) rfl;rw[Za h1] at hd;refine JE hW.nd h2 ?_ (by rw[hd]; refine(Wj ?_ ?_).trans h1; rw[S.len]; exact h3; rfl);rw[hd]; exact Ud S hW h2 (g:=false) hp h0
  | most a n h0 h e=>
    subst h e;rw[Jb (show¬ (OP=ON∨OP=O0) by decide) (show OP≠OO by decide),if_neg aR]
    cases hm:OC O.ways a with
    | none=>rw[VK S (o:=⟨OP,[a],[n]⟩) hm,ZZ (by rw[opE,hm]; decide),opE,hm]
    | some l=>
      cases hp:l.paid with
      | true=>rw[VM S (o:=⟨OP,[a],[n]⟩) hm hp,ZZ (by rw[opE,hm]; simp[hp]),opE,hm]; simp[hp]
      | false=>
        obtain⟨i,h1,h2,h3,h4⟩:=VL S (o:=⟨OP,[a],[n]⟩) hm hp;rw[h4,YK hm hp,if_neg (show¬ OP=OV by decide),if_pos (show OP≠OE by decide)];have hd:=YO (s:=s) (o:=⟨OP,[a],[n]⟩) rfl;rw[Za h1] at hd;refine JE hW.nd h2 ?_ (by rw[hd]; refine(Wj ?_ ?_).trans h1; rw[S.len]; exact h3; rfl);rw[hd]; exact Ud S hW h2 (g:=true) hp h0
  | free a h e=>
    subst h e;rw[Jb (show¬ (OV=ON∨OV=O0) by decide) (show OV≠OO by decide),if_neg aR]
    cases hm:OC O.ways a with
    | none=>rw[VK S (o:=⟨OV,[a],[]⟩) hm,Vb,opE,hm]
    | some l=>
      cases hp:l.paid with
      | true=>rw[VM S (o:=⟨OV,[a],[]⟩) hm hp,Vb,opE,hm]; simp[hp]
      | false=>
        obtain⟨i,h1,h2,h3,h4⟩:=VL S (o:=⟨OV,[a],[]⟩) hm hp;rw[h4,if_pos (show OV=OV from rfl),Vb,opE,hm]; simp[hp]
  | claim a n h0 h e=>
    subst h e;rw[Jb (show¬ (OE=ON∨OE=O0) by decide) (show OE≠OO by decide),if_neg aR]
    cases hm:OC O.ways a with
    | none=>rw[VK S (o:=⟨OE,[a],[n]⟩) hm,Zj (by rw[opE,hm]; decide),opE,hm]
    | some l=>
      cases hp:l.paid with
      | true=>rw[VM S (o:=⟨OE,[a],[n]⟩) hm hp,Zj (by rw[opE,hm]; simp[hp]),opE,hm]; simp[hp]
      | false=>
        obtain⟨i,h1,h2,h3,h4⟩:=VL S (o:=⟨OE,[a],[n]⟩) hm hp;have hpl:l.pl=i:=by
          have:=hW.pl i h3;rwa [show O.ways.getD i default=(a,l) by rw[fA,h2]; rfl] at this
        obtain⟨e1,e2⟩:=spl_is S i;rw[h4,ZP hm hp,if_neg (show¬ OE=OV by decide),if_neg (show¬ OE≠OE by decide),e1,e2,hpl];show(if ¬ (O.spLo i≤n∧n≤O.spHi i) then (14:Int) else _)=_;by_cases hc:O.spLo i≤n∧n≤O.spHi i
        · rw[if_neg (fun x=>x hc),if_neg (show¬ (n<O.spLo i∨O.spHi i<n) by omega)]
        · rw[if_pos hc,if_pos (show n<O.spLo i∨O.spHi i<n by omega)]
  | pack p a h e=>
    subst h e;rw[wr_pack rfl];have hev:(∃ q∈s.packs,q.number=p)↔p∈O.ever:=by
      rw[←S.ever];exact⟨fun⟨q,hq,e⟩=>fM.2 ⟨q,hq,e⟩,fun h=>by obtain⟨q,hq,e⟩:=fM.1 h; exact⟨q,hq,e⟩⟩
    unfold RO.came;show(if ∃ q∈s.packs,q.number=p then (6:Int) else if s.find a<0 then 2 else if s.there=20 then 3 else if s.hi (s.find a).toNat<s.count (s.find a)+1 then 15 else s.narrowed ⟨OO,[a],[p]⟩)=_;by_cases hp:p∈O.ever
    · rw[if_pos (hev.2 hp),VZ hp]
    · rw[if_neg (fun x=>hp (hev.1 x))]
      cases hm:OC O.ways a with
      | none=>rw[S.findN hm,if_pos aD,V0 hp hm]
      | some l=>
        obtain⟨i,h1,h2,h3,h4,h5⟩:=S.findS hm;have r:=S.lane i h2;rw[h4] at r;rw[Yq hp hm,h1,if_neg aB,fK,r.hi,r.cnt,S.cnt];have hd:=YP (s:=s) (o:=⟨OO,[a],[p]⟩) rfl;have hd2:s.done ⟨OO,[a],[p]⟩ = {s with packs:=s.packs ++ [⟨p,i,1⟩]}:=by rw[hd]; show _=_; rw[show(⟨OO,[a],[p]⟩:Ord).n0=a from rfl,h1]; rfl
        rw[JE hW.nd h3 (f:=chP p) (by rw[hd2]; exact RH S hW h3) (by rw[hd2]; exact h1)];have e1:((O.packs.length:Int)=20)↔O.packs.length=20:=by omega
        have e2:(l.hi<(l.packs.length:Int)+1)↔l.hi≤l.packs.length:=by omega
        simp only[e1,e2]
  | move k p x hk h e=>
    subst h e;have hk1:¬ (k=ON∨k=O0):=by rcases hk with ⟨rfl,_⟩|⟨rfl,_⟩|⟨rfl,_⟩|⟨rfl,_⟩ <;> decide
    have hk2:k≠OO:=by rcases hk with ⟨rfl,_⟩|⟨rfl,_⟩|⟨rfl,_⟩|⟨rfl,_⟩ <;> decide
    rw[Jb (show¬ ((⟨k,[],[p]⟩:Ord).kind=ON∨(⟨k,[],[p]⟩:Ord).kind=O0) from hk1) hk2,if_pos rfl];unfold RO.moved;show(if s.held p<0 then (2:Int) else RO.movedE k (s.packs.getD (s.held p).toNat default).state)=_
    cases hm:OC O.packs p with
    | none=>rw[S.heldN hm,if_pos aD,Kw hm]
    | some d=>
      obtain⟨j,h1,h2,h3,h4,h5,_⟩:=S.heldS hm;rw[h1,if_neg aB,fK,h4,KG hm];unfold RO.movedE;rcases hk with ⟨rfl,rfl⟩|⟨rfl,rfl⟩|⟨rfl,rfl⟩|⟨rfl,rfl⟩ <;> simp[OM,OK,OL,OJ]
end Go.Am
namespace Go.Am
theorem J4 {α β:Type} {l:List α} {j:Nat} {a d : α} {f : α→β} (hj:j<l.length) (h:f a=f (l.getD j d)):(l.set j a).map f=l.map f:=by
 rw[List.map_set,h,fA,fE hj,Option.getD_some];have:(l.map f).set j ((l.map f)[j]'(by rw[fC]; exact hj))=l.map f:=List.set_getElem_self _;rwa [List.getElem_map] at this
theorem Ts {f:RP→Bool} {q:RP}:∀ {l:List RP} {j:Nat},j<l.length→f q=f (l.getD j default)→q.number=(l.getD j default).number→((l.set j q).filter f).map (·.number)=(l.filter f).map (·.number):=by
 intro l
 induction l with
 | nil=>intro j hj; cases hj
 | cons a l ih=>
  intro j hj h1 h2
  cases j with
  | zero=>
   rw[fT] at h1 h2;rw[fI,fG,fG,h1];split <;> simp[h2]
  | succ j=>
   rw[fV] at h1 h2;have:=ih bc h1 h2;rw[fY,fG,fG];split <;> simp[this]
theorem filt_burn {f:RP→Bool} {q:RP}:∀ {l:List RP} {j:Nat},j<l.length→f q=false→f (l.getD j default)=true→(l.map (·.number)).Nodup→((l.set j q).filter f).map (·.number)=((l.filter f).map (·.number)).filter fun x=>!decide (x=(l.getD j default).number):=by
 intro l
 induction l with
 | nil=>intro j hj; cases hj
 | cons a l ih=>
  intro j hj h1 h2 nd;rw[fH,gC] at nd
  cases j with
  | zero=>
   rw[fT] at h2⊢;rw[fI,fZ (by rw[h1]; decide),gA h2,fH,fZ aR];symm;rw[List.filter_eq_self];intro x hx;obtain⟨p,hp,rfl⟩:=fM.1 hx;have hne:p.number≠a.number:=fun e=>nd.1 (fM.2 ⟨p,(List.mem_filter.1 hp).1,e⟩)
   simp[hne]
  | succ j=>
   rw[fV] at h2⊢;have hj':j<l.length:=by simpa using hj
   have:=ih hj' h1 h2 nd.2;rw[fY,fG,fG];have hne:a.number≠(l.getD j default).number:=fun e=>nd.1 (fM.2 ⟨_,getD_mem hj',e.symm⟩)
   split
   ·rw[fH,fH,gA (by show(!decide (a.number=_))=true; rw[decide_eq_false hne]; rfl),this]
   ·exact this
theorem cnt_set {f:RP→Bool} {q:RP}:∀ {l:List RP} {j:Nat},j<l.length→(l.set j q).countP f+(if f (l.getD j default)=true then 1 else 0)=l.countP f+if f q=true then 1 else 0:=by
  intro l
  induction l with
  | nil=>intro j hj; cases hj
  | cons a l ih=>
    intro j hj
    cases j with
    | zero=>
      rw[fT,fI,fP,fP];omega
    | succ j=>
      rw[fV,fY,fP,fP];have:=ih (j:=j) bc;omega
theorem mget_mdel {κ ν:Type} [DecidableEq κ] {l:List (κ × ν)} (hn:(l.map (·.1)).Nodup) {k n : κ}:OC (Xi l k) n=if n=k then none else OC l n:=by
  induction l with
  | nil=>simp[Xi,OC]
  | cons p l ih=>
    rw[fH,gC] at hn;simp only[Xi,OC];by_cases hk:p.1=k
    · subst hk;by_cases hnk:n=p.1
      · subst hnk;simp only[if_pos]
        first|exact J5 hn.1|(rw[if_pos rfl]; exact J5 hn.1)
      · simp only[if_neg hnk]
        first|rfl|(rw[if_pos rfl])
    · have hk':¬ k=p.1:=fun e=>hk e.symm
      by_cases hnp:n=p.1
      · subst hnp;simp[hk,hk',OC]
      · simp[hk,hk',OC,hnp,ih hn.2]
theorem names_len {s s':RO} (h:s'.names=s.names):s'.ways.length=s.ways.length:=by
 have:=congrArg List.length h;rwa [RO.names,RO.names,fC,fC] at this
theorem SimO.lift {O O':Off} {s s':RO} (S:SimO O s) (L:SimL O' s') (hp:s'.packs=s.packs) (hc:s'.claims=s.claims) (ho:O'.packs=O.packs) (he:O'.ever=O.ever) (hcl:O'.claims=O.claims) (hn:s'.names=s.names):SimO O' s':=by
 have hl:=names_len hn;refine{toSimL:=L,ever:=?_,nd:=?_,held:=?_,gone:=?_,key:=?_,cnt:=?_,claims:=?_,cl:=?_}
 ·rw[hp,he]; exact S.ever
 ·rw[hp]; exact S.nd
 ·rw[hp,ho,hl,hn]; exact S.held
 ·rw[hp,ho]; exact S.gone
 ·rw[ho,he]; exact S.key
 ·rw[RO.there,hp,ho]; exact S.cnt
 ·rw[hcl,hc,hn]; exact S.claims
 ·rw[hc,hl]; exact S.cl
theorem SimO.claim {O:Off} {s:RO} (S:SimO O s) {w:Str} {i:Nat} (hi:i<s.ways.length) (hw:s.names.getD i []=w):SimO {O with claims:=O.claims ++ [w]} {s with claims:=s.claims ++ [(i:Int)]}:=by
 refine{toSimL:=⟨S.rooms,S.names,S.lane⟩,ever:=S.ever,nd:=S.nd,held:=S.held,gone:=S.gone,key:=S.key,cnt:=S.cnt,claims:=?_,cl:=?_}
 ·show O.claims ++ [w]=(s.claims ++ [(i:Int)]).map fun i=>s.names.getD i.toNat []
  rw[fQ,←S.claims];simp only[fH,List.map_nil,fK,hw]
 ·intro x hx;rcases fJ.1 hx with hx|hx
  ·exact S.cl x hx
  ·rw[fD] at hx;exact⟨i,hx,hi⟩
theorem Uq {O:Off} {s:RO} (S:SimO O s) {w:Str} {l:Lane} (h:OC O.ways w=some l) : 0≤s.find w:=by
 obtain⟨i,h1,_⟩:=S.findS h;omega
theorem sim_okr {O:Off} {s:RO} {o:Ord} {t:Tell} (S:SimO O s) (c:OT o t) (h0:O.wrong t=0):OkR s o:=by
 have hok:=c.ok;refine⟨hok.room,hok.way,fun e=>⟨(hok.tell e).1,(hok.tell e).2,?_⟩,fun e=>⟨hok.free e,?_⟩,hok.pack,fun e=>⟨(hok.move e).1,?_⟩⟩
 all_goals clear hok
 ·cases c with
  | least a n _ h e2=>subst h e2; obtain⟨l,hm,_⟩:=ZO h0; exact Uq S hm
  | most a n _ h e2=>subst h e2; obtain⟨l,hm,_⟩:=ZO h0; exact Uq S hm
  | claim a n _ h e2=>subst h e2; obtain⟨l,hm,_⟩:=XW h0; exact Uq S hm
  | room a h _=>subst h; exact absurd e aM
  | way a b c h _=>subst h; exact absurd e aM
  | free a h _=>subst h; exact absurd e aM
  | pack p a h _=>subst h; exact absurd e aM
  | move k p s hk h _=>subst h; rcases hk with ⟨rfl,_⟩|⟨rfl,_⟩|⟨rfl,_⟩|⟨rfl,_⟩ <;> exact absurd e aM
 ·cases c with
  | free a h e2=>subst h e2; obtain⟨l,hm,_⟩:=Yl h0; exact Uq S hm
  | least a n _ h _=>subst h; exact absurd e aM
  | most a n _ h _=>subst h; exact absurd e aM
  | claim a n _ h _=>subst h; exact absurd e aM
  | room a h _=>subst h; exact absurd e aM
  | way a b c h _=>subst h; exact absurd e aM
  | pack p a h _=>subst h; exact absurd e aM
  | move k p s hk h _=>subst h; rcases hk with ⟨rfl,_⟩|⟨rfl,_⟩|⟨rfl,_⟩|⟨rfl,_⟩ <;> exact absurd e aM
 ·cases c with
  | move k p x hk h e2=>
   subst h e2;obtain⟨d,hm⟩:=Ym h0;obtain⟨j,h1,_⟩:=S.heldS hm;show 0≤s.held p;omega
  | free a h _=>subst h; exact absurd e aM
  | least a n _ h _=>subst h; exact absurd e aM
  | most a n _ h _=>subst h; exact absurd e aM
  | claim a n _ h _=>subst h; exact absurd e aM
  | room a h _=>subst h; exact absurd e aM
  | way a b c h _=>subst h; exact absurd e aM
  | pack p a h _=>subst h; exact absurd e aM
theorem Y5 {s:RO} {i:Nat} {w:RW} (hi:i<s.ways.length) (hw:w.name=(s.ways.getD i default).name):RO.names {s with ways:=s.ways.set i w} = s.names:=J6 hi hw
theorem Jy {l:List RP} {j:Nat} {q p:RP} (hj:j<l.length) (hp:p∈l.set j q):p=q∨∃ k,k<l.length∧k≠j∧p=l.getD k default:=by
 obtain⟨k,hk,rfl⟩:=List.mem_iff_getElem.1 hp;rw[gE] at hk;by_cases h:k=j
 ·subst h; left; rw[List.getElem_set_self]
 ·right; refine⟨k,hk,h,?_⟩;rw[List.getElem_set_ne (fun e=>h e.symm),fA,fE hk]; rfl
theorem Wt {l:List RP} (nd:(l.map (·.number)).Nodup) {j k:Nat} (hj:j<l.length) (hk:k<l.length) (h:k≠j):(l.getD k default).number≠(l.getD j default).number:=by
 intro e;have e1:(l.map (·.number))[k]? = some (l.getD j default).number:=by rw[gO,fE hk,Option.map_some,←e,fA,fE hk]; rfl
 have e2:(l.map (·.number))[j]? = some (l.getD j default).number:=by rw[gO,fE hj,Option.map_some,fA,fE hj]; rfl
 exact h (X7 nd e1 e2)
end Go.Am
namespace Go.Am
section
variable {O:Off} {s:RO} (S:SimO O s) (hW:WF O)
include S hW
theorem WH {w:Str} {l:Lane} {n:Int} {g:Bool} (hm:OC O.ways w=some l) (hp:l.paid=false) (hn : 0≤n):SimO (O.mod w (chB n g)) {s with ways:=XN s.ways (s.find w) fun x=>if g then {x with top:=n} else {x with told:=n}}:=by
  obtain⟨i,h1,h2,h3,h4,_⟩:=S.findS hm;rw[Za h1];refine S.lift (Ud S hW h3 hp hn) rfl rfl rfl rfl rfl (Y5 (by rw[S.len]; exact h2) ?_)
  cases g <;> rfl
theorem tell_free {w:Str} {l:Lane} (hm:OC O.ways w=some l) (hp:l.paid=false):SimO (O.mod w fun l=>{l with told:=none,top:=none}) {s with ways:=XN s.ways (s.find w) fun x=>{x with told:=-1,top:=-1}}:=by
 obtain⟨i,h1,h2,h3,h4,_⟩:=S.findS hm;obtain⟨_,h6,r⟩:=at_i S h3;rw[Za h1];refine S.lift (S.toSimL.setL hW.nd h3 (ps:=s.packs) rfl (r.freed hp) (fun j hj _=>S.lane j hj)) rfl rfl rfl rfl rfl (Y5 h6 rfl)
theorem tell_claim {w:Str} {l:Lane} {n:Int} (hm:OC O.ways w=some l) (hn : 0≤n):SimO {O.mod w (fun l=>{l with paid:=true,told:=some n}) with claims:=O.claims ++ [w]} {s with ways:=XN s.ways (s.find w) fun x=>{x with paid:=n},claims:=s.claims ++ [s.find w]}:=by
 obtain⟨i,h1,h2,h3,h4,h5⟩:=S.findS hm;obtain⟨_,h6,r⟩:=at_i S h3;rw[Za h1,h1];have S1:SimO (O.mod w (fun l=>{l with paid:=true,told:=some n})) {s with ways:=s.ways.set i {(s.ways.getD i default) with paid:=n}}:=S.lift (S.toSimL.setL hW.nd h3 (ps:=s.packs) rfl (r.claimed hn) (fun j hj _=>S.lane j hj)) rfl rfl rfl rfl rfl (Y5 h6 rfl);exact S1.claim (w:=w) (i:=i) (by show i<(s.ways.set i _).length; rw[gE]; exact h6) (by have e:=Y5 (w:={(s.ways.getD i default) with paid:=n}) h6 rfl; exact(congrArg (fun l=>List.getD l i []) e).trans h5)
theorem tell_room {a:Str}:SimO {O with rooms:=O.rooms ++ [a]} {s with rooms:=s.rooms ++ [a]}:=by
 have _:=hW;refine S.lift ⟨?_,S.names,S.lane⟩ rfl rfl rfl rfl rfl rfl;show s.rooms ++ [a]=O.rooms ++ [a];rw[S.rooms]
theorem tell_way {a b c:Str} (hb:b∈O.rooms) (hc:c∈O.rooms):SimO {O with ways:=O.ways ++ [(a,⟨O.ways.length,Kh O.rooms b,Kh O.rooms c,none,none,[],false⟩)]} {s with ways:=s.ways ++ [⟨a,s.room b,s.room c,-1,-1,-1⟩]}:=by
  have _:=hW;have hl:=S.len;have hnl:s.names.length=s.ways.length:=fC _;have hnm:RO.names {s with ways:=s.ways ++ [⟨a,s.room b,s.room c,-1,-1,-1⟩]} = s.names ++ [a]:=by simp[RO.names]
  have hget:∀ i,i<s.ways.length→(s.names ++ [a]).getD i []=s.names.getD i []:=fun i hi=>XA _ aB
  have room:∀ x,x∈O.rooms→s.room x=(Kh O.rooms x:Int):=fun x hx=>by rw[RO.room,S.rooms,ixE,if_pos hx]
  refine{toSimL:=⟨S.rooms,?_,?_⟩,ever:=S.ever,nd:=S.nd,held:=?_,gone:=S.gone,key:=S.key,cnt:=S.cnt,claims:=?_,cl:=?_}
  · rw[hnm,S.names,fQ]; rfl
  · intro i hi;dsimp only at hi⊢;rw[fO,fF] at hi;by_cases h:i<O.ways.length
    · rw[XA _ h,XA _ aB]; exact S.lane i h
    · obtain rfl:i=O.ways.length:=by omega
      have e1:(O.ways ++ [(a,(⟨O.ways.length,Kh O.rooms b,Kh O.rooms c,none,none,[],false⟩:Lane))]).getD O.ways.length default=(a,⟨O.ways.length,Kh O.rooms b,Kh O.rooms c,none,none,[],false⟩):=by
        rw[fA,fL]; rfl
      have e2:(s.ways ++ [(⟨a,s.room b,s.room c,-1,-1,-1⟩:RW)]).getD O.ways.length default=⟨a,s.room b,s.room c,-1,-1,-1⟩:=by
        rw[←hl,fA,fL]; rfl
      rw[e1,e2];refine⟨room b hb,room c hc,?_,fun h=>bX,fun _=>⟨rfl,rfl,rfl⟩,fun m hm=>(by cases hm),fun m hm=>(by cases hm)⟩;have:s.packs.filter (Zh (O.ways.length:Nat)) = []:=by
        rw[List.filter_eq_nil_iff];intro p hp hcb;unfold Zh at hcb;rw[Bool.and_eq_true,decide_eq_true_eq,decide_eq_true_eq] at hcb;obtain⟨w,i,_,h2,h3,_⟩:=S.held p hp hcb.2;omega
      show []=(s.packs.filter (Zh (O.ways.length:Nat))).map (·.number);rw[this]; rfl
  · intro p hp h;obtain⟨w,i,h1,h2,h3,h4⟩:=S.held p hp h;refine⟨w,i,h1,h2,?_,?_⟩
    · show i<(s.ways ++ [_]).length;rw[fO]; omega
    · rw[hnm,hget i h3]; exact h4
  · rw[hnm];refine S.claims.trans (List.map_congr_left fun x hx=>?_);obtain⟨k,rfl,hk⟩:=S.cl x hx;exact(hget _ hk).symm
  · intro x hx;obtain⟨k,h1,hk⟩:=S.cl x hx;refine⟨k,h1,?_⟩;show k<(s.ways ++ [_]).length;rw[fO]; omega
theorem tell_pack {p:Int} {w:Str} {l:Lane} (hm:OC O.ways w=some l) (hp:p ∉ O.ever):SimO {O.mod w (chP p) with packs:=O.packs ++ [(p,(w,1))],ever:=O.ever ++ [p]} {s with packs:=s.packs ++ [⟨p,s.find w,1⟩]}:=by
 obtain⟨i,h1,h2,h3,h4,h5⟩:=S.findS hm;rw[h1];have L:=RH S hW h3 (p:=p);have hpk:p ∉ O.packs.map (·.1):=fun h=>hp (S.key p ((Xd _ _).2 h))
 have hold:∀ n,n∈O.ever→OC (O.packs ++ [(p,(w,(1:Int)))]) n=OC O.packs n:=by
  intro n hn;have hne:n≠p:=fun e=>hp (e ▸ hn)
  rw[←Jt (b:=(w,(1:Int))) hpk,ZH,if_neg hne]
 have hnum:∀ q∈s.packs,q.number∈O.ever:=fun q hq=>by rw[←S.ever]; exact fM.2 ⟨q,hq,rfl⟩
 refine{toSimL:=⟨L.rooms,L.names,L.lane⟩,ever:=?_,nd:=?_,held:=?_,gone:=?_,key:=?_,cnt:=?_,claims:=S.claims,cl:=S.cl}
 ·show(s.packs ++ [_]).map _=O.ever ++ [p];rw[fQ,S.ever]; rfl
 ·show((s.packs ++ [_]).map _).Nodup;rw[fQ,List.nodup_append];refine⟨S.nd,by simp,?_⟩;intro a ha b hb;rw[S.ever] at ha;simp only[fH,List.map_nil,fD] at hb;subst hb;intro e; exact hp (e ▸ ha)
 ·intro q hq hst;show ∃ w' i',OC (O.packs ++ [(p,(w,1))]) q.number=_∧_;rcases fJ.1 hq with hq|hq
  ·rw[hold _ (hnum q hq)]; exact S.held q hq hst
  ·rw[fD] at hq;subst hq;refine⟨w,i,?_,rfl,by rw[S.len]; exact h2,h5⟩;rw[←Jt (b:=(w,(1:Int))) hpk,ZH,if_pos rfl]
 ·intro q hq hst;show OC (O.packs ++ [(p,(w,1))]) q.number=none;rcases fJ.1 hq with hq|hq
  ·rw[hold _ (hnum q hq)]; exact S.gone q hq hst
  ·rw[fD] at hq;subst hq; exact absurd (show(0:Int)<1 by decide) hst
 ·intro n hn;show n∈O.ever ++ [p];have hn:(OC (O.packs ++ [(p,(w,(1:Int)))]) n).isSome=true:=hn;rw[←Jt (b:=(w,(1:Int))) hpk,ZH] at hn;by_cases he:n=p
  ·rw[he]; simp
  ·rw[if_neg he] at hn; exact List.mem_append_left _ (S.key n hn)
 ·show RO.there _=(((O.packs ++ [_]).length:Nat):Int);unfold RO.there;rw[List.countP_append,fO];have:=S.cnt;unfold RO.there at this;rw[List.countP_singleton,fF];simp only[show decide ((0:Int)<1)=true from rfl,if_true];omega
theorem Ui {p x:Int} {d:Str × Int} (hm:OC O.packs p=some d) (hx : 0<x):SimO {O with packs:=Qr O.packs p (d.1,x)} {s with packs:=YY s.packs (s.held p) x}:=by
 have _:=hW;obtain⟨j,h1,hj,h3,h4,h5,i,h6,h7,h8⟩:=S.heldS hm;rw[Vf h1];generalize hq:({(s.packs.getD j default) with state:=x}:RP)=q;have q1:q.number=(s.packs.getD j default).number:=by rw[←hq]
 have q2:q.way=(s.packs.getD j default).way:=by rw[←hq]
 have q3:q.state=x:=by rw[←hq]
 have hmap:(s.packs.set j q).map (·.number)=s.packs.map (·.number):=J4 hj q1;have hcb:∀ k:Int,Zh k q=Zh k (s.packs.getD j default):=by
  intro k;unfold Zh;rw[q2,q3,h4,decide_eq_true hx,decide_eq_true h5]
 have hin:p∈O.packs.map (·.1):=(Xd _ _).1 (by rw[hm]; rfl);refine{toSimL:=⟨S.rooms,S.names,?_⟩,ever:=hmap.trans S.ever,nd:=(by show((s.packs.set j q).map _).Nodup; rw[hmap]; exact S.nd),held:=?_,gone:=?_,key:=?_,cnt:=?_,claims:=S.claims,cl:=S.cl}
 ·intro k hk;have r:=S.lane k hk;refine⟨r.fr,r.to,?_,r.paid,r.free,r.tn,r.pn⟩;show _=((s.packs.set j q).filter _).map _;rw[Ts hj (hcb k) q1]; exact r.pks
 ·intro y hy hst;show ∃ w' i',OC (Qr O.packs p (d.1,x)) y.number=_∧_;rcases Jy hj hy with rfl|⟨k,hk,hkj,rfl⟩
  ·refine⟨d.1,i,?_,q2.trans h6,h7,h8⟩;rw[ZH,if_pos (q1.trans h3),q3]
  ·have:=Wt S.nd hj hk hkj;rw[h3] at this;rw[ZH,if_neg this];exact S.held _ (getD_mem hk) hst
 ·intro y hy hst;show OC (Qr O.packs p (d.1,x)) y.number=none;rcases Jy hj hy with rfl|⟨k,hk,hkj,rfl⟩
  ·rw[q3] at hst; exact absurd hx hst
  ·have:=Wt S.nd hj hk hkj;rw[h3] at this;rw[ZH,if_neg this];exact S.gone _ (getD_mem hk) hst
 ·intro n hn;have hn:(OC (Qr O.packs p (d.1,x)) n).isSome=true:=hn;rw[ZH] at hn;by_cases he:n=p
  ·rw[he]; exact S.key p (by rw[hm]; rfl)
  ·rw[if_neg he] at hn; exact S.key n hn
 ·show((s.packs.set j q).countP _:Int)=(((Qr O.packs p (d.1,x)).length:Nat):Int);rw[Sh,if_pos hin];have h9:=cnt_set (f:=fun p=>decide (0<p.state)) (q:=q) hj;have h10:=S.cnt;unfold RO.there at h10
  try dsimp only at h9
  rw[q3,h4,decide_eq_true hx,decide_eq_true h5] at h9;omega
theorem tell_burn {p:Int} {d:Str × Int} {l:Lane} (hm:OC O.packs p=some d) (hl:OC O.ways d.1=some l):SimO {O.mod d.1 (fun l=>{l with packs:=l.packs.filter fun q=>!decide (q=p)}) with packs:=Xi O.packs p} {s with packs:=YY s.packs (s.held p) 0}:=by
  obtain⟨j,h1,hj,h3,h4,h5,i,h6,h7,h8⟩:=S.heldS hm;obtain⟨i2,f1,f2,f3,f4,f5⟩:=S.findS hl;obtain rfl:i2=i:=by
    have hn1:s.names[i2]? = some d.1:=by
      rw[fA,fE (by rw[RO.names,fC,S.len]; exact f2)] at f5;rw[fE (by rw[RO.names,fC,S.len]; exact f2)];exact congrArg some f5
    have hn2:s.names[i]? = some d.1:=by
      rw[fA,fE (by rw[RO.names,fC]; exact h7)] at h8;rw[fE (by rw[RO.names,fC]; exact h7)];exact congrArg some h8
    exact X7 (by rw[S.names]; exact hW.nd) hn1 hn2
  rw[Vf h1];generalize hq:({(s.packs.getD j default) with state:=0}:RP)=q;have q1:q.number=(s.packs.getD j default).number:=by rw[←hq]
  have q3:q.state=0:=by rw[←hq]
  have hmap:(s.packs.set j q).map (·.number)=s.packs.map (·.number):=J4 hj q1;have hcq:∀ k:Int,Zh k q=false:=fun k=>by unfold Zh; rw[q3]; simp
  have hco:∀ k:Nat,k≠i2→Zh k (s.packs.getD j default)=false:=fun k hk=>by unfold Zh; rw[h6,decide_eq_false aB]; rfl
  have hci:Zh i2 (s.packs.getD j default)=true:=by unfold Zh; rw[h6,h4,decide_eq_true rfl,decide_eq_true h5]; rfl
  have hdel:=fun n=>mget_mdel hW.pnd (k:=p) (n:=n)
  obtain ⟨_, g2, r⟩ := at_i S f3;have L := S.toSimL.setL hW.nd f3 (f := fun l => { l with packs := l.packs.filter fun q => !decide (q = p) }) (w' := s.ways.getD i2 default) (ps := s.packs.set j q) rfl
    ⟨r.fr,r.to,by rw[filt_burn hj (hcq i2) hci S.nd,h3,←r.pks],r.paid,r.free,r.tn,r.pn⟩
    (fun k hk hne=>by
      have rk:=S.lane k hk;exact⟨rk.fr,rk.to,by rw[Ts hj ((hcq k).trans (hco k hne).symm) q1]; exact rk.pks,rk.paid,rk.free,rk.tn,rk.pn⟩)
  rw[TT g2] at L;refine{toSimL:=⟨L.rooms,L.names,L.lane⟩,ever:=hmap.trans S.ever,nd:=(by show((s.packs.set j q).map _).Nodup; rw[hmap]; exact S.nd),held:=?_,gone:=?_,key:=?_,cnt:=?_,claims:=S.claims,cl:=S.cl}
  · intro y hy hst;show ∃ w' i',OC (Xi O.packs p) y.number=_∧_;rcases Jy hj hy with rfl|⟨k,hk,hkj,rfl⟩
    · rw[q3] at hst; exact absurd hst aD
    · have:=Wt S.nd hj hk hkj;rw[h3] at this;rw[hdel,if_neg this];exact S.held _ (getD_mem hk) hst
  · intro y hy hst;show OC (Xi O.packs p) y.number=none;rcases Jy hj hy with rfl|⟨k,hk,hkj,rfl⟩
    · rw[hdel,if_pos (q1.trans h3)]
    · have:=Wt S.nd hj hk hkj;rw[h3] at this;rw[hdel,if_neg this];exact S.gone _ (getD_mem hk) hst
  · intro n hn;have hn:(OC (Xi O.packs p) n).isSome=true:=hn;rw[hdel] at hn;by_cases he:n=p
    · rw[if_pos he] at hn; cases hn
    · rw[if_neg he] at hn; exact S.key n hn
  · show((s.packs.set j q).countP _:Int)=(((Xi O.packs p).length:Nat):Int);have hin:p∈O.packs.map (·.1):=(Xd _ _).1 (by rw[hm]; rfl);have hlt:=X6 hin;rw[fC] at hlt;rw[W0 hin,List.length_eraseIdx_of_lt hlt];have h9:=cnt_set (f:=fun p=>decide (0<p.state)) (q:=q) hj;have h10:=S.cnt;unfold RO.there at h10
    try dsimp only at h9
    rw[q3,h4,decide_eq_true h5] at h9;simp only[show decide ((0:Int)<0)=false from rfl,if_true] at h9;simp at h9;omega
end
theorem sim_tell {O:Off} {s:RO} {o:Ord} {t:Tell} (S:SimO O s) (hW:WF O) (c:OT o t) (h0:O.wrong t=0):SimO (O.tell t) (s.done o):=by
 cases c with
 | room a h e=>subst h e; rw[Rq rfl]; exact tell_room S hW
 | way a b c h e=>
  subst h e;obtain⟨_,h2,h3,_⟩:=Ub h0;rw[Tl rfl]; exact tell_way S hW h2 h3
 | least a n hn h e=>
  subst h e;obtain⟨l,h1,h2,_⟩:=ZO h0;rw[Yg rfl]; exact WH S hW (g:=false) h1 h2 hn
 | most a n hn h e=>
  subst h e;obtain⟨l,h1,h2,_⟩:=ZO h0;rw[YO rfl]; exact WH S hW (g:=true) h1 h2 hn
 | free a h e=>
  subst h e;obtain⟨l,h1,h2⟩:=Yl h0;rw[Rp rfl]; exact tell_free S hW h1 h2
 | claim a n hn h e=>
  subst h e;obtain⟨l,h1,h2⟩:=XW h0;rw[Wg rfl]; exact tell_claim S hW h1 hn
 | pack p a h e=>
  subst h e;obtain⟨h1,l,h2,_⟩:=JC h0;rw[YP rfl]; exact tell_pack S hW h2 h1
 | move k p x hk h e=>
  subst h e;obtain⟨d,hm⟩:=Ym h0;have et:∀ y:Int,0<y→O.tell (.move p y) = {O with packs:=Qr O.packs p (d.1,y)}:=fun y hy=>by
   show(match OC O.packs p with|none=>O|some d=>if y=0 then _ else _)=_;rw[hm]; exact if_neg aB
  rcases hk with ⟨rfl,rfl⟩|⟨rfl,rfl⟩|⟨rfl,rfl⟩|⟨rfl,rfl⟩
  ·rw[Rr rfl,et 2 aD]; exact Ui S hW hm aD
  ·rw[Ro rfl,et 3 aD]; exact Ui S hW hm aD
  ·rw[Rm rfl,et 1 aD]; exact Ui S hW hm aD
  ·obtain⟨l,hl⟩:=hW.homeM hm;rw[Rn rfl];have e2:O.tell (.move p 0) = {O.mod d.1 (fun l=>{l with packs:=l.packs.filter fun q=>!decide (q=p)}) with packs:=Xi O.packs p}:=by
    show(match OC O.packs p with|none=>O|some d=>if (0:Int)=0 then _ else _)=_;rw[hm]; exact if_pos rfl
   rw[e2]; exact tell_burn S hW hm hl
theorem sim0:SimO VX ro0:=by
 refine{toSimL:=⟨rfl,rfl,fun i h=>bX⟩,ever:=rfl,nd:=List.nodup_nil,held:=fun p h=>bX,gone:=fun p h=>bX,key:=fun n h=>bX,cnt:=rfl,claims:=rfl,cl:=fun i h=>bX}
def Qp (lines:List Str):RO:=lines.foldl (fun s x=>s.done (X1 x)) ro0
theorem VY (lines:List Str) (x:Str):Qp (lines ++ [x])=(Qp lines).done (X1 x):=by simp[Qp]
theorem done_small {s:RO} {o:Ord} {k:Nat} (h:s.rooms.length≤k∧s.ways.length≤k∧s.packs.length≤k∧s.claims.length≤k):(s.done o).rooms.length≤k+1∧(s.done o).ways.length≤k+1∧(s.done o).packs.length≤k+1∧(s.done o).claims.length≤k+1:=by
 obtain⟨h1,h2,h3,h4⟩:=h;unfold RO.done
 repeat' split
 all_goals first|omega|(simp only[fO,fF,XN,YY,gE]; omega)
theorem J8 (lines:List Str):(Qp lines).rooms.length≤lines.length∧(Qp lines).ways.length≤lines.length∧(Qp lines).packs.length≤lines.length∧(Qp lines).claims.length≤lines.length:=by
 generalize hn:lines.length=n
 induction n generalizing lines with
 | zero=>rw[List.eq_nil_of_length_eq_zero hn]; exact⟨fB _,fB _,fB _,fB _⟩
 | succ n ih=>
  have hne:lines≠[]:=by intro e; rw[e] at hn; cases hn
  obtain⟨l,x,rfl⟩:∃ l x,lines=l ++ [x]:=⟨lines.dropLast,lines.getLast hne,(List.dropLast_concat_getLast hne).symm⟩;rw[VY];exact done_small (ih l (by simpa using hn))
theorem Done.sim {lines:List Str} (hD:Done lines):SimO (after lines) (Qp lines):=by
 induction hD with
 | nil=>exact sim0
 | @snoc lines line h he ih=>
  rw[XD,VY];have h1:=Z4 he;exact sim_tell ih h.wf.1 (ot_of h1.1) h1.2.1
theorem Done.okr {lines:List Str} (hD:Done lines) {x:Str} (hx:Kf lines x=0):OkR (Qp lines) (X1 x):=by
 have h1:=Z4 hx;exact sim_okr hD.sim (ot_of h1.1) h1.2.1
theorem Done.wrongR {lines:List Str} (hD:Done lines) {x:Str} (hx:KC x=0):(Qp lines).wrong (X1 x)=(after lines).wrong (QH x):=sim_wrong hD.sim hD.wf.1 (ot_of hx)
end Go.Am
namespace Go.Am
structure RRb (h:AHeap) (o vl:AV) (lines:List Str):Prop where
 ad:AddrOf o o 0 0
 rd:Rd h o 0 [.bool true,vl]
 log:WRow h vl lines
theorem RRb.ext {h h':AHeap} {o vl:AV} {lines:List Str} (r:RRb h o vl lines) (k:Keeps h h'):RRb h' o vl lines:=⟨r.ad,r.rd.ext k,r.log.ext k⟩
structure RbOk (o vl vw:AV) (lines full:List Str):Prop where
 ad:AddrOf o o 0 0
 part:∀ h,WRow h vw full→WRow h vl lines
def RB (h0 h:AHeap) (o:AV) (lines:List Str) (G:List Obj):Prop:=∃ vl vw full,RbOk o vl vw lines full∧St h0 h (⟨o,0,[.bool true,vl],true⟩::⟨vw,1,wcs full,true⟩::G)
theorem St.rrb {h0 h:AHeap} {o vl vw:AV} {lines full:List Str} {G:List Obj} (st:St h0 h (⟨o,0,[.bool true,vl],true⟩::⟨vw,1,wcs full,true⟩::G)) (ok:RbOk o vl vw lines full):RRb h o vl lines:=⟨ok.ad,st.rd 0 rfl,ok.part h (st.rd 1 rfl)⟩
theorem sum_next {l:Str} {i:Nat} (h:i<l.length):Go.Proofs.Tryz.sumTo (l.take (i+1))=(29*Go.Proofs.Tryz.sumTo (l.take i)+((l.getD i 0).toNat:Int)) % 9973:=by
 rw[←ZI (d:=0) h];simp[Go.Proofs.Tryz.sumTo]
theorem rAfter_rro {lines:List Str} (hD:Done lines) (i:Nat):(Qp (lines.take i)).rooms.length≤100∧(Qp (lines.take i)).ways.length≤100∧(Qp (lines.take i)).packs.length≤100∧(Qp (lines.take i)).claims.length≤100:=by
 have h:=J8 (lines.take i);have h2:=hD.wf.2.1;have h3:(lines.take i).length≤lines.length:=by rw[gB]; exact Nat.min_le_right _ _
 omega
theorem rAfter_rro' {lines:List Str} (hD:Done lines):(Qp lines).rooms.length≤100∧(Qp lines).ways.length≤100∧(Qp lines).packs.length≤100∧(Qp lines).claims.length≤100:=by
 have h:=J8 lines;have h2:=hD.wf.2.1;omega
theorem UL {lines:List Str} {line:Str} (hD:Done lines) (h:KC line=0):Kf lines line=if (Qp lines).wrong (X1 line)=0∧lines.length=100 then 16 else (Qp lines).wrong (X1 line):=by
  rw[hD.wrongR h];unfold Kf;dsimp only;rw[if_pos h]
theorem U4 {lines:List Str} (hD:Done lines):∀ k:Nat,k≤lines.length→(bodyT lines k).length≤9+46*k:=by
 have hsm:=hD.small;have hn:=hD.wf.2.1;intro k
 induction k with
 | zero=>intro _; exact fB _
 | succ k ih=>
  intro hk;have h1:=ih aB;have h2:=Go.Proofs.Tryz.itoa_len k aB;have h3:(lines.getD k []).length≤40:=hsm _ (getD_mem hk);show(bodyT lines k ++ lineT k (lines.getD k [])).length≤_;unfold lineT;simp only[fO,List.length_cons,List.length_nil];omega
theorem asked_no {lines:List Str} {line:Str} (h:KC line≠0):Kf lines line=KC line:=by
 unfold Kf;dsimp only;rw[if_neg h,if_neg (fun x=>h x.1)]
theorem UW {h:AHeap} {o vl:AV} {lines:List Str} (r:RRb h o vl lines):ACalls Go.Proofs.Tryz.prog 69 [o] h (fun q h'=>q = .bool false∧h=h'):=by
 refine OR 12 [.tmp 2] Go.Proofs.Tryz.func69 rfl aD rfl rfl (fU rfl) ?_;show KA _ 12 _ _ [(0,o)] _;refine Ke [0] ?_;refine OB ?_;refine KOps.ptrEqN aF r.ad ?_;refine OB ?_;refine Ov r.ad ?_;refine Og (dj:=5) rfl rfl ?_;refine Ob r.ad ?_;intro p8 hp8;refine Og (dj:=5) rfl rfl ?_;refine Oe hp8 r.rd rfl ?_;refine Og (dj:=5) rfl rfl ?_;refine KOps.notT ?_;refine OY ?_;refine Ke [2] ?_;refine Oi ?_;exact⟨rfl,rfl⟩
theorem new14_c {h:AHeap}:ACalls Go.Proofs.Tryz.prog 17 [] h (fun q h'=>RB h h' q [] []):=by
 refine OR 3 [.tmp 0] Go.Proofs.Tryz.func17 rfl aD rfl rfl (fU rfl) ?_;have hS:=St.refl h;show KA _ 3 _ _ [] _;refine Oa [] ?_;refine On ?_;refine O8 (zs:=[.bool false,.nils]) (cs:=[_,_]) aF aI aF (.cons (off:=0) (s:=1) aF (AV.cells_one aG) rfl aD .nil) aI ?_;refine OQ hS aE ?_;intro p2 h' hp2 hS;refine Oa [0] ?_;refine Oi ?_;exact⟨.nils,.nils,[],⟨hp2,fun _ h=>h⟩,St.pick [1,0] aD rfl (hS.nil 1)⟩
theorem after14_c {h:AHeap} {v:AV} {lines:List Str} (hv:WRow h v lines) (hD:Done lines):ACalls Go.Proofs.Tryz.prog 112 [v] h (fun q h'=>∃ r0 r1 r2 r3,q = .agg [r0,r1,r2,r3]∧St h h' (RoO r0 r1 r2 r3 (Qp lines))):=by
 refine KA.fnH 26 [.cell 2 166] Go.Proofs.Tryz.func112 rfl aD rfl rfl (fU rfl) ?_;have hS:=St.refl h;have hln:=hD.wf.2.1;show KA _ 26 _ _ [(0,v)] _;refine On ?_;refine Kn hS ?_;intro p2 h' hp2 hS;refine cM ?_;refine On ?_;refine O8 (zs:=[.nils,.nils,.nils,.nils]) (cs:=[_,_,_,_]) aF aI aF .nil aI ?_;refine Kn hS ?_;intro p3 h' hp3 hS;refine OU hS rfl (i:=0) rfl hp3 aE aI aI aD ?_;intro h' hS;simp only[fI,fY,fN] at hS;refine Ol [0,2,3] ?_;refine dY ?_;refine O7 (X:=Nat × AV × AV × AV × AV) (fun x=>[(0,v),(2,p2),(3,p3),(4,.int .i64 (x.1:Int))]) (fun x h'=>x.1≤lines.length∧St h h' [⟨p3,0,[x.2.1,x.2.2.1,x.2.2.2.1,x.2.2.2.2],true⟩,⟨x.2.1,1,wcs (Qp (lines.take x.1)).rooms,true⟩,⟨x.2.2.1,6,flr rwc (Qp (lines.take x.1)).ways,true⟩,⟨x.2.2.2.1,3,flr rpc (Qp (lines.take x.1)).packs,true⟩,⟨x.2.2.2.2,1,ints (Qp (lines.take x.1)).claims,true⟩,⟨p2,0,[.nils,.nils,.nils,.nils],true⟩]) (fun x=>lines.length - x.1) (0,.nils,.nils,.nils,.nils) ?_ ?_
 ·exact⟨gY _,St.pick [4,0,1,2,3,5] aD rfl ((((hS.nil 1).nil 3).nil 6).nil 1)⟩
 rintro⟨i,r0,r1,r2,r3⟩ h5 ⟨hi,hS⟩;dsimp only at hi hS⊢;refine Oc ?_;refine Ka (Rd.ext hS.keeps hv) ?_;refine Oa [0,2,3,4,11] ?_;refine Ok ?_ ?_
 ·intro c11;have hlt:i<lines.length:=by omega
  obtain⟨z1,z2,z3,z4⟩:=rAfter_rro hD i;refine Ot [0,2,3,4] ?_;refine dr ?_;refine Oq (Rd.ext hS.keeps hv) (j:=i) rfl aA ?_;intro p17 hp17;refine OS hp17 (Rd.ext hS.keeps hv) aA ?_;refine Oj rfl (TN (l:=(lines.getD i [])) (Nat.le_trans (hD.small _ (getD_mem hlt)) aB)) ?_;rintro _ h19 ⟨vn,vm,rfl,hS19⟩;replace hS:St _ _ (_::_::_):=St.trans hS hS19;refine Oc ?_;refine Kn hS ?_;intro p5 h' hp5 hS;refine OU hS rfl (i:=0) rfl hp5 bB aI aI aD ?_;intro h' hS;simp only[fI,fY,fN] at hS;refine Oa [0,2,3,4,5] ?_;refine Kl rfl ?_;refine Oy hS (i:=3) rfl hp3 aI aD ?_;refine Oy hS (i:=0) rfl hp5 aI aD ?_;refine Oj rfl (done_c (RRo.mk (s:=(Qp (lines.take i))) (hS.rd 4 rfl) (hS.rd 5 rfl) (hS.rd 6 rfl) (hS.rd 7 rfl) aB aB aB aB) (hS.rd 1 rfl) (hS.rd 2 rfl) ((hD.take i).okr (hD.one i hlt))) ?_;rintro _ h24 ⟨w0,w1,w2,w3,rfl,hS24⟩;replace hS:St _ _ (_::_::_::_::_):=St.trans hS hS24;refine OU hS rfl (i:=7) rfl hp3 (by have q0:=St.one hS (k:=0) rfl; have q1:=St.one hS (k:=1) rfl; have q2:=St.one hS (k:=2) rfl; have q3:=St.one hS (k:=3) rfl; dsimp only at q0 q1 q2 q3; simp only[List.all_cons,List.all_nil,q0,q1,q2,q3] <;> rfl) aI aI aD ?_;intro h' hS;simp only[fI,fY,fN] at hS;refine cE ?_;refine Ow [0,2,3,4] ?_;refine bz ?_;rw[←VY,ZI hlt] at hS;exact lpN (i+1,w0,w1,w2,w3) ⟨by dsimp only; omega,St.pick [7,0,1,2,3,12] aD rfl hS⟩ aK
 ·intro c11;refine bj ?_;refine Ow [2,3] ?_;refine On ?_;refine Oy hS (i:=0) rfl hp3 aI aD ?_;refine OU hS rfl (i:=5) rfl hp2 am aI aI aD ?_;intro h' hS;simp only[fI,fY,fN] at hS;refine Ol [2] ?_;refine Ki ?_;refine QK hS (i:=5) rfl hp2 aI aR ?_;have hie:i=lines.length:=by omega
  subst hie;rw[fX] at hS;exact⟨_,_,_,_,rfl,St.pick [1,2,3,4] aD rfl hS⟩
theorem would14_c {h:AHeap} {o vl:AV} {lines:List Str} (r:RRb h o vl lines) (hD:Done lines) {line:Str} (hl:line.length≤1000000):ACalls Go.Proofs.Tryz.prog 71 [o,.str (wd line)] h (fun q h'=>q = .int .i64 (Kf lines line)∧Keeps h h'):=by
 refine OR 34 [.tmp 4] Go.Proofs.Tryz.func71 rfl aD rfl rfl (fU rfl) ?_;have hS:=St.refl h;have hln:=hD.wf.2.1;obtain⟨z1,z2,z3,z4⟩:=rAfter_rro' hD;show KA _ 34 _ _ [(0,o),(1,.str (wd line))] _;refine cD ?_;refine Oj rfl (UW (r.ext hS.keeps)) ?_;rintro _ _ ⟨rfl,rfl⟩;refine Ol [0,1,8] ?_;refine OW ?_;refine Ot [0,1] ?_;refine Oc ?_;refine Oj rfl (TN (l:=line) hl) ?_;rintro _ h19 ⟨vn,vm,rfl,hS19⟩;replace hS:St _ _ (_::_::_):=St.trans hS hS19;refine Oc ?_;refine Kn hS ?_;intro p5 h' hp5 hS;refine OU hS rfl (i:=0) rfl hp5 bB aI aI aD ?_;intro h' hS;simp only[fI,fY,fN] at hS;refine Oa [0,5,6] ?_;refine Oa [0,5,6,15] ?_;refine Ok ?_ ?_
 ·intro c15;rw[c15];refine OZ [4] mixed rfl aF ?_;refine Oh ?_;refine cW ?_;intro p18 hp18;refine Oe hp18 (Rd.ext hS.keeps r.rd) rfl ?_;refine Kg (by intro _ _ hr; obtain⟨_,_,_,_,_,hq⟩:=hr; exact hq.keeps) (after14_c (Rd.ext hS.keeps r.log) hD) ?_;rintro _ h20 ⟨w0,w1,w2,w3,rfl,hS20⟩;replace hS:St _ _ (_::_::_::_::_):=St.trans hS hS20;refine Oy hS (i:=4) rfl hp5 aI aD ?_;refine Oj rfl (rwrong_c (RRo.mk (s:=Qp lines) (hS.rd 0 rfl) (hS.rd 1 rfl) (hS.rd 2 rfl) (hS.rd 3 rfl) aB aB aB aB) (hS.rd 5 rfl) (hS.rd 6 rfl) (ot_of c15).ok ⟨by omega,by omega,by omega,by omega⟩) ?_;rintro _ hx ⟨rfl,hK⟩;replace hS:St _ _ _:=St.trans hS (St.ofK hK)
  try simp only[fR] at hS
  refine Oa [0,6] ?_;refine Oc ?_;refine Ox (dj:=25) rfl rfl true false rfl ?_ ?_
  ·intro g25;have g25:=of_decide_eq_true g25;refine Oc ?_;refine Ov r.ad ?_;refine Og (dj:=25) rfl rfl ?_;refine Ob r.ad ?_;intro p28 hp28;refine Og (dj:=25) rfl rfl ?_;refine Oe hp28 (Rd.ext hS.keeps r.rd) rfl ?_;refine Og (dj:=25) rfl rfl ?_;refine Ka (Rd.ext hS.keeps r.log) ?_;refine Oa [6,32] ?_;refine Ok ?_ ?_
   ·intro c32;refine Oa [6] ?_;refine b9 ?_;rw[UL hD c15,if_pos ⟨g25,by omega⟩]
   ·intro c32;refine Ot [6] ?_;refine b9 ?_;rw[UL hD c15,if_neg (fun x=>c32 aB)]
  ·intro g25;have g25:=of_decide_eq_false g25;refine Oa [6,32] ?_;refine OW ?_;refine Ot [6] ?_;refine b9 ?_;rw[UL hD c15,if_neg (fun x=>g25 x.1)]
 ·intro c15;refine Ot [0,6] ?_;refine Oc ?_;refine Ox (dj:=25) rfl rfl true false rfl ?_ ?_
  ·intro g25;have g25:=of_decide_eq_true g25;refine Oc ?_;refine Ov r.ad ?_;refine Og (dj:=25) rfl rfl ?_;refine Ob r.ad ?_;intro p28 hp28;refine Og (dj:=25) rfl rfl ?_;refine Oe hp28 (Rd.ext hS.keeps r.rd) rfl ?_;refine Og (dj:=25) rfl rfl ?_;refine Ka (Rd.ext hS.keeps r.log) ?_;refine Oa [6,32] ?_;refine Ok ?_ ?_
   ·intro c32;refine Oa [6] ?_;refine bu ?_;exact absurd g25 c15
   ·intro c32;refine Ot [6] ?_;refine bu ?_;exact absurd g25 c15
  ·intro g25;have g25:=of_decide_eq_false g25;refine Oa [6,32] ?_;refine OW ?_;refine Ot [6] ?_;refine b9 ?_;rw[asked_no c15]
theorem do14_c {h0 h:AHeap} {o vl vw:AV} {lines full:List Str} {G:List Obj} (ok:RbOk o vl vw lines full) (hS:St h0 h (⟨o,0,[.bool true,vl],true⟩::⟨vw,1,wcs full,true⟩::G)) (hD:Done lines) {line:Str} (hl:line.length≤1000000):ACalls Go.Proofs.Tryz.prog 22 [o,.str (wd line)] h (fun q h'=>q = .int .i64 (Kf lines line)∧RB h0 h' o (doL lines line) G):=by
 refine OR 24 [.tmp 4] Go.Proofs.Tryz.func22 rfl aD rfl rfl (fU rfl) ?_;have hln:=hD.wf.2.1;show KA _ 24 _ _ [(0,o),(1,.str (wd line))] _;refine cD ?_;refine Oj rfl (would14_c (St.rrb hS ok) hD hl) ?_;rintro _ hx ⟨rfl,hK⟩;replace hS:St _ _ _:=St.trans hS (St.ofK hK)
 try simp only[fR] at hS
 refine Oa [0,1,5] ?_;refine Oa [0,1,5,10] ?_;refine Ok ?_ ?_
 ·intro c10;refine Oc ?_;refine cJ ?_;intro v12 h' hS;refine Oh ?_;refine Ov ok.ad ?_;refine Ob ok.ad ?_;intro p15 hp15;refine Oe hp15 (hS.rd 1 rfl) rfl ?_;refine Qi hS (fun _=>rfl) (i:=0) rfl (a:=0) rfl (ok.part _ (hS.rd 2 rfl)) (b:=lines.length) aR bP aB ?_;intro v17 h' hS;simp only[fI,fR] at hS;refine Oh ?_;refine cJ ?_;intro v19 h' hS;refine Qb hS (fun _=>rfl) (i:=0) rfl aA ?_;intro r20 h' hr20 hS;refine Ov ok.ad ?_;refine Ob ok.ad ?_;intro p22 hp22;refine Kc hS rfl (i:=1) rfl hp22 aG aT ?_;intro h' hS;simp only[fI,fY,fN] at hS;refine Ol [5] ?_;refine bu ?_;refine⟨rfl,?_⟩;rw[doL,if_pos c10];exact⟨r20,r20,lines ++ [line],⟨ok.ad,fun _ h=>h⟩,St.drop (A:=[_]) (St.perm ((List.perm_middle (l₁:=[_,_])).trans (List.Perm.cons _ (List.Perm.swap _ _ _))) hS)⟩
 ·intro c10;refine Ot [5] ?_;refine bu ?_;refine⟨rfl,?_⟩;rw[doL,if_neg c10];exact⟨vl,vw,full,ok,hS⟩
theorem Ry {h:AHeap} {o vl:AV} {lines:List Str} (r:RRb h o vl lines) (hll:lines.length≤1000000):ACalls Go.Proofs.Tryz.prog 25 [o] h (fun q h'=>St h h' [⟨q,1,wcs lines,true⟩]):=by
 refine OR 11 [.tmp 2] Go.Proofs.Tryz.func25 rfl aD rfl rfl (fU rfl) ?_;have hS:=St.refl h;show KA _ 11 _ _ [(0,o)] _;refine dk ?_;refine Oj rfl (UW (r.ext hS.keeps)) ?_;rintro _ _ ⟨rfl,rfl⟩;refine Ol [0,4] ?_;refine OW ?_;refine Ot [0] ?_;refine On ?_;refine cJ ?_;intro v5 h' hS;refine Oh ?_;refine cW ?_;intro p8 hp8;refine Oe hp8 (Rd.ext hS.keeps r.rd) rfl ?_;refine Qi hS (fun _=>rfl) (i:=0) rfl (a:=0) rfl (Rd.ext hS.keeps r.log) (b:=lines.length) aR bP aB ?_;intro v10 h' hS;simp only[fI,fR] at hS;refine bt ?_;exact hS
theorem WE {h:AHeap} {l:Str} (hl:l.length≤1000000):ACalls Go.Proofs.Tryz.prog 75 [.str (wd l)] h (fun q h'=>q = .int .i64 (Go.Proofs.Tryz.sumTo l)∧h=h'):=by
 refine OR 20 [.tmp 2] Go.Proofs.Tryz.func75 rfl aD rfl rfl (fU rfl) ?_;show KA _ 20 _ _ [(0,.str (wd l))] _;refine Oa [0] ?_;refine bo ?_;refine dY ?_;refine O7 (X:=Nat) (fun i=>[(0,.str (wd l)),(3,.int .i64 (Go.Proofs.Tryz.sumTo (l.take i))),(4,.int .i64 (i:Int))]) (fun i h'=>i≤l.length∧h=h') (fun i=>l.length - i) 0 ?_ ?_
 ·exact⟨gY _,rfl⟩
 rintro i h2 ⟨hi,rfl⟩;have hs:=Go.Proofs.Tryz.sumTo_in (l.take i);refine Oa [0,3,4,8] ?_;refine Ok ?_ ?_
 ·intro c8;have hlt:i<l.length:=by omega
  have hb:=(l.getD i 0).toNat_lt;refine Ot [0,3,4] ?_;refine dr ?_;refine KOps.mul aC aC ?_;refine Oc ?_;refine QJ (j:=i) rfl aA ?_;refine Z2 aB (by have:=(l.getD i 0).toNat_lt; omega) ?_;refine KP aC aC ?_;have ht:(29*Go.Proofs.Tryz.sumTo (l.take i)+((l.getD i 0).toNat:Int)).tmod 9973=(29*Go.Proofs.Tryz.sumTo (l.take i)+((l.getD i 0).toNat:Int)) % 9973:=Int.tmod_eq_emod_of_nonneg aB;refine KOps.rem aD (by rw[ht]; omega) (by rw[ht]; omega) ?_;rw[ht,←sum_next hlt];refine Oo ?_;refine cE ?_;refine Ow [0,3,4] ?_;refine bz ?_;exact lpN (i+1) ⟨by omega,rfl⟩ aB
 ·intro c8;refine bj ?_;refine Ow [3] ?_;refine bt ?_;have hie:i=l.length:=by omega
  subst hie;rw[fX];exact⟨rfl,rfl⟩
theorem Tq {h:AHeap} {o vl:AV} {lines:List Str} (r:RRb h o vl lines) (hD:Done lines) (hV:Vs h):ACalls Go.Proofs.Tryz.prog 27 [o] h (fun q h'=>q = .str (wd (fileT lines))∧h=h'):=by
 refine OR 38 [.tmp 2] Go.Proofs.Tryz.func27 rfl aD rfl rfl (fU rfl) ?_;have hln:=hD.wf.2.1;have hsm:=hD.small;show KA _ 38 _ _ [(0,o)] _;refine On ?_;refine Oo ?_;refine Ol [0] ?_;refine b3 ?_;refine Oh ?_;refine Oj rfl (UW r) ?_;rintro _ _ ⟨rfl,rfl⟩;refine Ol [0,6] ?_;refine OW ?_;refine Ot [0] ?_;refine On ?_;refine Oo ?_;refine cM ?_;refine b3 ?_;refine Oo ?_;refine cM ?_;refine Oz ?_;refine O7 (X:=Nat) (fun i=>[(0,o),(3,.str (wd (bodyT lines i))),(4,.int .i64 (i:Int))]) (fun i h'=>i≤lines.length∧h=h') (fun i=>lines.length - i) 0 ?_ ?_
 ·exact⟨gY _,rfl⟩
 rintro i h2 ⟨hi,rfl⟩;refine b3 ?_;refine cY ?_;refine cW ?_;intro p10 hp10;refine Oe hp10 r.rd rfl ?_;refine Ka r.log ?_;refine Qo ?_;refine Ol [0,3,4,13] ?_;refine Ok ?_ ?_
 ·intro c13;have hlt:i<lines.length:=by omega
  have hbl:=U4 hD i aB;have hil:=Lib.itoa_length_le ((i:Int)+1) aB aB;have hxl:(lines.getD i []).length≤40:=hsm _ (getD_mem hlt);obtain⟨x,hx⟩:∃ x,lines.getD i []=x:=⟨_,rfl⟩;rw[hx] at hxl;refine Ot [0,3,4] ?_;refine b6 ?_;refine OZ [3] mixed rfl aF ?_;refine cY ?_;refine KP aC aC ?_;refine Kg aX (Wn hV.pw aB aB) ?_;rintro _ _ ⟨rfl,rfl⟩;refine ZC aA ?_;refine Oh ?_;refine cW ?_;intro p23 hp23;refine Oe hp23 r.rd rfl ?_;refine Oh ?_;refine Oq r.log (j:=i) rfl aA ?_;intro p26 hp26;refine OS hp26 r.log aA ?_;rw[hx];refine ZC aA ?_;refine ZC aA ?_;refine ZC aA ?_;refine Oo ?_;refine cE ?_;refine Ow [0,3,4] ?_;refine Kl rfl ?_;refine Oh ?_;refine ce ?_;subst hx;exact lpN (i+1) ⟨by omega,rfl⟩ aB
 ·intro c13;have hie:i=lines.length:=by omega
  subst hie;have hbl:=U4 hD lines.length (fB _);have hs2:=Go.Proofs.Tryz.sumTo_in (bodyT lines lines.length);have hil:=Lib.itoa_length_le (Go.Proofs.Tryz.sumTo (bodyT lines lines.length)) aB aB;refine bj ?_;refine Ow [3] ?_;refine dc ?_;refine ZC aA ?_;refine Oh ?_;refine Oj rfl (WE aB) ?_;rintro _ _ ⟨rfl,rfl⟩;refine Oj rfl (Wn hV.pw aB aB) ?_;rintro _ _ ⟨rfl,rfl⟩;refine ZC aA ?_;refine ZC aA ?_;refine dh ?_;refine fnQ.ret1 ?_;exact⟨rfl,rfl⟩
end Go.Am
namespace Go.Am
def nlS (f : Str) : Nat → List Str × Nat × Nat
  | 0=>([],0,0)
  | i+1=>if f.getD i 0=10 then ((nlS f i).1 ++ [(f.take i).drop (nlS f i).2.1],i+1,(nlS f i).2.1) else nlS f i
theorem W6 {f:Str} {i:Nat} (h:f.getD i 0=10):nlS f (i+1)=((nlS f i).1 ++ [(f.take i).drop (nlS f i).2.1],i+1,(nlS f i).2.1):=if_pos h
theorem nlS_no {f:Str} {i:Nat} (h:¬ f.getD i 0=10):nlS f (i+1)=nlS f i:=if_neg h
theorem flatN_snoc (l:List Str) (w:Str):Y4 (l ++ [w])=Y4 l ++ (w ++ [10]):=by simp[Y4]
structure NlI (f:Str) (i:Nat):Prop where
 le:(nlS f i).2.1≤i
 lb:(nlS f i).2.2≤(nlS f i).2.1
 eq:f.take i=Y4 (nlS f i).1 ++ (f.take i).drop (nlS f i).2.1
 no:∀ w∈(nlS f i).1,(10:UInt8) ∉ w
 now:(10:UInt8) ∉ (f.take i).drop (nlS f i).2.1
 last:(nlS f i).1 = []∨(nlS f i).2.2+(QP (nlS f i).1).length+1=(nlS f i).2.1
 cnt:(nlS f i).1.length≤i
 small:∀ w∈(nlS f i).1,w.length≤i
theorem lastL_snoc (l:List Str) (w:Str):QP (l ++ [w])=w:=by
 unfold QP;rw[fO,fF,fW,fA,fL]; rfl
theorem nl_inv (f:Str):∀ i,i≤f.length→NlI f i:=by
 intro i
 induction i with
 | zero=>intro _; exact⟨fB _,fB _,rfl,fun _ h=>by(cases h),fun h=>by(cases h),.inl rfl,fB _,fun _ h=>by(cases h)⟩
 | succ i ih=>
  intro hi;have I:=ih aB;have ht:f.take (i+1)=f.take i ++ [f.getD i 0]:=(ZI (d:=0) aB).symm;have htl:(f.take i).length=i:=by rw[gB]; omega
  have hwl:((f.take i).drop (nlS f i).2.1).length=i - (nlS f i).2.1:=by rw[List.length_drop,htl]
  have hle:=I.le;by_cases hc:f.getD i 0=10
  ·have e:=W6 hc;refine⟨?_,?_,?_,?_,?_,?_,?_,?_⟩
   ·rw[e]; exact fB _
   ·rw[e]; dsimp only; omega
   ·rw[e,ht,hc];dsimp only;have hz:List.drop (i+1) (f.take i ++ [10]) = []:=gI (by rw[fO,htl]; exact fB _);rw[flatN_snoc,hz,List.append_nil,←gU,←I.eq]
   ·rw[e];intro w hw;rcases fJ.1 hw with hw|hw
    ·exact I.no w hw
    ·rw[fD.1 hw]; exact I.now
   ·rw[e,ht,hc];dsimp only;have hz:List.drop (i+1) (f.take i ++ [10]) = []:=gI (by rw[fO,htl]; exact fB _);rw[hz];intro h; cases h
   ·rw[e];refine .inr ?_;dsimp only;rw[lastL_snoc,hwl]; omega
   ·rw[e];dsimp only;rw[fO,fF];have:=I.cnt; omega
   ·rw[e];intro w hw;rcases fJ.1 hw with hw|hw
    ·have:=I.small w hw; omega
    ·rw[fD.1 hw,hwl]; omega
  ·have e:=nlS_no hc;refine⟨?_,?_,?_,?_,?_,?_,?_,?_⟩
   ·rw[e]; omega
   ·rw[e]; exact I.lb
   ·rw[e,ht,fS (by rw[htl]; exact hle),←gU,←I.eq]
   ·rw[e]; exact I.no
   ·rw[e,ht,fS (by rw[htl]; exact hle)];intro h;rcases fJ.1 h with h|h
    ·exact I.now h
    ·exact hc (fD.1 h).symm
   ·rw[e]; exact I.last
   ·rw[e]; have:=I.cnt; omega
   ·rw[e]; intro w hw; have:=I.small w hw; omega
theorem nl_end {f:Str} (h0 : 0<f.length) (h:f.getD (f.length - 1) 0=10):(nlS f f.length).1=O4 f∧(nlS f f.length).2.2=f.length - (QP (O4 f)).length - 1:=by
 have I:=nl_inv f f.length (fB _);have I1:=nl_inv f (f.length - 1) aB;obtain⟨n,hn⟩:∃ n,f.length=n+1:=⟨f.length - 1,by omega⟩;rw[hn] at I h⊢;rw[hn] at I1;rw[fW] at h I1;have e:=W6 h;have htl:f.take (n+1)=f:=by rw[←hn]; exact fX
 have hd:f.dropLast=f.take n:=by rw[List.dropLast_eq_take,hn,fW]
 have hL:O4 f=(nlS f (n+1)).1:=by
  rw[O4,hd,I1.eq,e];exact Sl _ I1.now _ I1.no
 refine⟨hL.symm,?_⟩;rcases I.last with h1|h1
 ·rw[e] at h1;exact absurd (congrArg List.length h1) aR
 ·rw[hL];have:(nlS f (n+1)).2.1=n+1:=by rw[e]
  omega
end Go.Am
