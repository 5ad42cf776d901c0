/-
  Layer 14: what is wrong with a line is the same in the reference's office (plain).
  Conditions: none.
-/
import Derived.Test.YtgnogfjajnnaoaaGreatDoorOm
import Derived.Test.YtgnogfjajnnaoaaGreatDoorCad
open Int renaming toNat_natCast → fG
open List renaming getElem?_eq_getElem → fA, getD_eq_getElem?_getD → fE, set_cons_zero → fI, set_cons_succ → fU, length_map → fY, perm_append_comm → fB, length_append → fC, filter_cons → fD, map_cons → fF, mem_map → fJ, mem_singleton → fK, countP_cons → fM, length_singleton → fN, map_append → fP, nil_append → fQ, eq_nil_of_length_eq_zero → fR, getD_cons_zero → fS, getD_cons_succ → fT, getElem?_concat_length → fW, getElem?_map → fX, filter_cons_of_neg → fZ, filter_cons_of_pos → gA, mem_append → gE, length_set → gI, take_length → gO, nodup_cons → gU
open Nat renaming le_of_ble_eq_true → fO, zero_add → fH, le_refl → fL, zero_le → fV
set_option maxRecDepth 99999
set_option maxHeartbeats 4000000
namespace Go.Am
theorem wr_room {s:RO} {o:Ord} (h:o.kind=OM):s.wrong o=s.built o:=if_pos (.inl h)
theorem wr_way {s:RO} {o:Ord} (h:o.kind=OX):s.wrong o=s.built o:=if_pos (.inr h)
theorem wr_pack {s:RO} {o:Ord} (h:o.kind=ON):s.wrong o=s.came o:=by unfold RO.wrong; rw[h]; rfl
theorem VU {s:RO} {o:Ord} (h1:¬ (o.kind=OM∨o.kind=OX)) (h2:o.kind≠ON):s.wrong o=if o.names = [] then s.moved o else s.told o:=by unfold RO.wrong; rw[if_neg h1,if_neg h2]
theorem Vq {O:Off} {s:RO} (S:SimO O s) {o:Ord} (hm:OB O.ways o.n0=none):s.told o=2:=by
 unfold RO.told; rw[S.findN hm,if_pos aD]
theorem Vt {O:Off} {s:RO} (S:SimO O s) {o:Ord} {l:Lane} (hm:OB O.ways o.n0=some l) (hp:l.paid=true):s.told o=20:=by
 obtain⟨i,h1,h2,h3,h4,_⟩:=S.findS hm;have r:=S.lane i h2;rw[h4] at r;obtain⟨n,_,h5,h6⟩:=r.paid hp;unfold RO.told; rw[h1,if_neg aB,fG,h6,if_pos h5]
theorem Vr {O:Off} {s:RO} (S:SimO O s) {o:Ord} {l:Lane} (hm:OB O.ways o.n0=some l) (hp:l.paid=false):∃ i:Nat,s.find o.n0=i∧O.ways[i]? = some (o.n0,l)∧i<O.ways.length∧s.told o=if o.kind=OR then 0 else if o.kind≠OC then s.narrowed o else if ¬ (s.spl i≤o.m0∧o.m0≤s.sph i) then 14 else if s.spl i<s.sph i then 21 else 0:=by
  obtain⟨i,h1,h2,h3,h4,_⟩:=S.findS hm;have r:=S.lane i h2;rw[h4] at r;obtain⟨h5,_⟩:=r.free hp;refine⟨i,h1,h3,h2,?_⟩;unfold RO.told; rw[h1,if_neg aB,fG,h5,if_neg aD]
theorem spl_is {O:Off} {s:RO} (S:SimO O s) (i:Nat):s.spl i=O.spLo i∧s.sph i=O.spHi i:=by
 unfold RO.spl RO.sph Off.spLo Off.spHi;rw[S.ws,S.rm]; exact⟨rfl,rfl⟩
theorem UU {s:RO} {i:Nat} {w:RW} (hi:i<s.ways.length) (hw:w.name=(s.ways.getD i default).name) {k:Str}:({s with ways:=s.ways.set i w}:RO).find k=s.find k:=V6 hi hw
theorem sim_wrong {O:Off} {s:RO} {o:Ord} {t:Tell} (S:SimO O s) (hW:WF O) (c:OT o t):s.wrong o=O.wrong t:=by
  cases c with
  | room a h e=>
    subst h e;rw[wr_room rfl];unfold RO.built;rw[if_pos rfl];show(if 0≤s.room a then (6:Int) else if s.rooms.length=6 then 3 else 0)=if a∈O.rooms then 6 else if O.rooms.length=6 then 3 else 0
    rw[S.rooms];by_cases h:a∈O.rooms
    · rw[if_pos h,if_pos (S.room.2 h)]
    · rw[if_neg h,if_neg (fun x=>h (S.room.1 x))]
  | way a b c h e=>
    subst h e;rw[wr_way rfl,ZN];unfold RO.built;rw[if_neg (show¬ OX=OM by decide)];show(if 0≤s.find a then (6:Int) else if s.room b<0∨s.room c<0 then 2 else if b=c then 13 else if s.ways.length=12 then 3 else 0)=_;have h1 : 0≤s.find a↔(OB O.ways a).isSome=true:=by
      rw[RO.find,S.names,ixE_nn,ZZ]
    have h2:(s.room b<0∨s.room c<0)↔(b ∉ O.rooms∨c ∉ O.rooms):=by rw[S.roomL,S.roomL]
    rw[S.len];simp only[h1,h2]
  | least a n h0 h e=>
    subst h e;rw[VU (show¬ (OE=OM∨OE=OX) by decide) (show OE≠ON by decide),if_neg aQ]
    cases hm:OB O.ways a with
    | none=>rw[Vq S (o:=⟨OE,[a],[n]⟩) hm,ZK (by rw[opE,hm]; decide),opE,hm]
    | some l=>
      cases hp:l.paid with
      | true=>rw[Vt S (o:=⟨OE,[a],[n]⟩) hm hp,ZK (by rw[opE,hm]; simp[hp]),opE,hm]; simp[hp]
      | false=>
        obtain⟨i,h1,h2,h3,h4⟩:=Vr S (o:=⟨OE,[a],[n]⟩) hm hp;rw[h4,Ys hm hp,if_neg (show¬ OE=OR by decide),if_pos (show OE≠OC by decide)];have hd:=XZ (s:=s) (o:=⟨OE,[a],[n]⟩) rfl;rw[QX h1] at hd;refine Jm hW.nd h2 ?_ (by rw[hd]; refine(UU ?_ ?_).trans h1; rw[S.len]; exact h3; rfl);rw[hd]; exact JV S hW h2 (g:=false) hp h0
  | most a n h0 h e=>
    subst h e;rw[VU (show¬ (OO=OM∨OO=OX) by decide) (show OO≠ON by decide),if_neg aQ]
    cases hm:OB O.ways a with
    | none=>rw[Vq S (o:=⟨OO,[a],[n]⟩) hm,ZK (by rw[opE,hm]; decide),opE,hm]
    | some l=>
      cases hp:l.paid with
      | true=>rw[Vt S (o:=⟨OO,[a],[n]⟩) hm hp,ZK (by rw[opE,hm]; simp[hp]),opE,hm]; simp[hp]
      | false=>
        obtain⟨i,h1,h2,h3,h4⟩:=Vr S (o:=⟨OO,[a],[n]⟩) hm hp;rw[h4,Ys hm hp,if_neg (show¬ OO=OR by decide),if_pos (show OO≠OC by decide)];have hd:=Yw (s:=s) (o:=⟨OO,[a],[n]⟩) rfl;rw[QX h1] at hd;refine Jm hW.nd h2 ?_ (by rw[hd]; refine(UU ?_ ?_).trans h1; rw[S.len]; exact h3; rfl);rw[hd]; exact JV S hW h2 (g:=true) hp h0
  | free a h e=>
    subst h e;rw[VU (show¬ (OR=OM∨OR=OX) by decide) (show OR≠ON by decide),if_neg aQ]
    cases hm:OB O.ways a with
    | none=>rw[Vq S (o:=⟨OR,[a],[]⟩) hm,YT,opE,hm]
    | some l=>
      cases hp:l.paid with
      | true=>rw[Vt S (o:=⟨OR,[a],[]⟩) hm hp,YT,opE,hm]; simp[hp]
      | false=>
        obtain⟨i,h1,h2,h3,h4⟩:=Vr S (o:=⟨OR,[a],[]⟩) hm hp;rw[h4,if_pos (show OR=OR from rfl),YT,opE,hm]; simp[hp]
  | claim a n h0 h e=>
    subst h e;rw[VU (show¬ (OC=OM∨OC=OX) by decide) (show OC≠ON by decide),if_neg aQ]
    cases hm:OB O.ways a with
    | none=>rw[Vq S (o:=⟨OC,[a],[n]⟩) hm,Q6 (by rw[opE,hm]; decide),opE,hm]
    | some l=>
      cases hp:l.paid with
      | true=>rw[Vt S (o:=⟨OC,[a],[n]⟩) hm hp,Q6 (by rw[opE,hm]; simp[hp]),opE,hm]; simp[hp]
      | false=>
        obtain⟨i,h1,h2,h3,h4⟩:=Vr S (o:=⟨OC,[a],[n]⟩) hm hp;have hpl:l.pl=i:=by
          have:=hW.pl i h3;rwa [show O.ways.getD i default=(a,l) by rw[fE,h2]; rfl] at this
        obtain⟨e1,e2⟩:=spl_is S i;rw[h4,ZB hm hp,if_neg (show¬ OC=OR by decide),if_neg (show¬ OC≠OC by decide),e1,e2,hpl];show(if ¬ (O.spLo i≤n∧n≤O.spHi i) then (14:Int) else _)=_;by_cases hc:O.spLo i≤n∧n≤O.spHi i
        · rw[if_neg (fun x=>x hc),if_neg (show¬ (n<O.spLo i∨O.spHi i<n) by omega)]
        · rw[if_pos hc,if_pos (show n<O.spLo i∨O.spHi i<n by omega)]
  | pack p a h e=>
    subst h e;rw[wr_pack rfl];have hev:(∃ q∈s.packs,q.number=p)↔p∈O.ever:=by
      rw[←S.ever];exact⟨fun⟨q,hq,e⟩=>fJ.2 ⟨q,hq,e⟩,fun h=>by obtain⟨q,hq,e⟩:=fJ.1 h; exact⟨q,hq,e⟩⟩
    unfold RO.came;show(if ∃ q∈s.packs,q.number=p then (6:Int) else if s.find a<0 then 2 else if s.there=20 then 3 else if s.hi (s.find a).toNat<s.count (s.find a)+1 then 15 else s.narrowed ⟨ON,[a],[p]⟩)=_;by_cases hp:p∈O.ever
    · rw[if_pos (hev.2 hp),VH hp]
    · rw[if_neg (fun x=>hp (hev.1 x))]
      cases hm:OB O.ways a with
      | none=>rw[S.findN hm,if_pos aD,VI hp hm]
      | some l=>
        obtain⟨i,h1,h2,h3,h4,h5⟩:=S.findS hm;have r:=S.lane i h2;rw[h4] at r;rw[Ya hp hm,h1,if_neg aB,fG,r.hi,r.cnt,S.cnt];have hd:=Yx (s:=s) (o:=⟨ON,[a],[p]⟩) rfl;have hd2:s.done ⟨ON,[a],[p]⟩ = {s with packs:=s.packs ++ [⟨p,i,1⟩]}:=by rw[hd]; show _=_; rw[show(⟨ON,[a],[p]⟩:Ord).n0=a from rfl,h1]; rfl
        rw[Jm hW.nd h3 (f:=chP p) (by rw[hd2]; exact W6 S hW h3) (by rw[hd2]; exact h1)];have e1:((O.packs.length:Int)=20)↔O.packs.length=20:=by omega
        have e2:(l.hi<(l.packs.length:Int)+1)↔l.hi≤l.packs.length:=by omega
        simp only[e1,e2]
  | move k p x hk h e=>
    subst h e;have hk1:¬ (k=OM∨k=OX):=by rcases hk with ⟨rfl,_⟩|⟨rfl,_⟩|⟨rfl,_⟩|⟨rfl,_⟩ <;> decide
    have hk2:k≠ON:=by rcases hk with ⟨rfl,_⟩|⟨rfl,_⟩|⟨rfl,_⟩|⟨rfl,_⟩ <;> decide
    rw[VU (show¬ ((⟨k,[],[p]⟩:Ord).kind=OM∨(⟨k,[],[p]⟩:Ord).kind=OX) from hk1) hk2,if_pos rfl];unfold RO.moved;show(if s.held p<0 then (2:Int) else RO.movedE k (s.packs.getD (s.held p).toNat default).state)=_
    cases hm:OB O.packs p with
    | none=>rw[S.heldN hm,if_pos aD,Kn hm]
    | some d=>
      obtain⟨j,h1,h2,h3,h4,h5,_⟩:=S.heldS hm;rw[h1,if_neg aB,fG,h4,Kv hm];unfold RO.movedE;rcases hk with ⟨rfl,rfl⟩|⟨rfl,rfl⟩|⟨rfl,rfl⟩|⟨rfl,rfl⟩ <;> simp[OL,OJ,OK,OI]
end Go.Am
namespace Go.Am
theorem JL {α β:Type} {l:List α} {j:Nat} {a d : α} {f : α→β} (hj:j<l.length) (h:f a=f (l.getD j d)):(l.set j a).map f=l.map f:=by
 rw[List.map_set,h,fE,fA hj,Option.getD_some];have:(l.map f).set j ((l.map f)[j]'(by rw[fY]; exact hj))=l.map f:=List.set_getElem_self _;rwa [List.getElem_map] at this
theorem RM {f:RP→Bool} {q:RP}:∀ {l:List RP} {j:Nat},j<l.length→f q=f (l.getD j default)→q.number=(l.getD j default).number→((l.set j q).filter f).map (·.number)=(l.filter f).map (·.number):=by
 intro l
 induction l with
 | nil=>intro j hj; cases hj
 | cons a l ih=>
  intro j hj h1 h2
  cases j with
  | zero=>
   rw[fS] at h1 h2;rw[fI,fD,fD,h1];split <;> simp[h2]
  | succ j=>
   rw[fT] at h1 h2;have:=ih (by simpa using hj) h1 h2;rw[fU,fD,fD];split <;> simp[this]
theorem filt_burn {f:RP→Bool} {q:RP}:∀ {l:List RP} {j:Nat},j<l.length→f q=false→f (l.getD j default)=true→(l.map (·.number)).Nodup→((l.set j q).filter f).map (·.number)=((l.filter f).map (·.number)).filter fun x=>!decide (x=(l.getD j default).number):=by
 intro l
 induction l with
 | nil=>intro j hj; cases hj
 | cons a l ih=>
  intro j hj h1 h2 nd;rw[fF,gU] at nd
  cases j with
  | zero=>
   rw[fS] at h2⊢;rw[fI,fZ (by rw[h1]; decide),gA h2,fF,fZ aQ];symm;rw[List.filter_eq_self];intro x hx;obtain⟨p,hp,rfl⟩:=fJ.1 hx;have hne:p.number≠a.number:=fun e=>nd.1 (fJ.2 ⟨p,(List.mem_filter.1 hp).1,e⟩)
   simp[hne]
  | succ j=>
   rw[fT] at h2⊢;have hj':j<l.length:=by simpa using hj
   have:=ih hj' h1 h2 nd.2;rw[fU,fD,fD];have hne:a.number≠(l.getD j default).number:=fun e=>nd.1 (fJ.2 ⟨_,getD_mem hj',e.symm⟩)
   split
   ·rw[fF,fF,gA (by show(!decide (a.number=_))=true; rw[decide_eq_false hne]; rfl),this]
   ·exact this
theorem cnt_set {f:RP→Bool} {q:RP}:∀ {l:List RP} {j:Nat},j<l.length→(l.set j q).countP f+(if f (l.getD j default)=true then 1 else 0)=l.countP f+if f q=true then 1 else 0:=by
  intro l
  induction l with
  | nil=>intro j hj; cases hj
  | cons a l ih=>
    intro j hj
    cases j with
    | zero=>
      rw[fS,fI,fM,fM];omega
    | succ j=>
      rw[fT,fU,fM,fM];have:=ih (j:=j) (by simpa using hj);omega
theorem mget_mdel {κ ν:Type} [DecidableEq κ] {l:List (κ × ν)} (hn:(l.map (·.1)).Nodup) {k n : κ}:OB (Z4 l k) n=if n=k then none else OB l n:=by
  induction l with
  | nil=>simp[Z4,OB]
  | cons p l ih=>
    rw[fF,gU] at hn;simp only[Z4,OB];by_cases hk:p.1=k
    · subst hk;by_cases hnk:n=p.1
      · subst hnk;simp only[if_pos]
        first|exact JM hn.1|(rw[if_pos rfl]; exact JM hn.1)
      · simp only[if_neg hnk]
        first|rfl|(rw[if_pos rfl])
    · have hk':¬ k=p.1:=fun e=>hk e.symm
      by_cases hnp:n=p.1
      · subst hnp;simp[hk,hk',OB]
      · simp[hk,hk',OB,hnp,ih hn.2]
theorem names_len {s s':RO} (h:s'.names=s.names):s'.ways.length=s.ways.length:=by
 have:=congrArg List.length h;rwa [RO.names,RO.names,fY,fY] at this
theorem SimO.lift {O O':Off} {s s':RO} (S:SimO O s) (L:SimL O' s') (hp:s'.packs=s.packs) (hc:s'.claims=s.claims) (ho:O'.packs=O.packs) (he:O'.ever=O.ever) (hcl:O'.claims=O.claims) (hn:s'.names=s.names):SimO O' s':=by
 have hl:=names_len hn;refine{toSimL:=L,ever:=?_,nd:=?_,held:=?_,gone:=?_,key:=?_,cnt:=?_,claims:=?_,cl:=?_}
 ·rw[hp,he]; exact S.ever
 ·rw[hp]; exact S.nd
 ·rw[hp,ho,hl,hn]; exact S.held
 ·rw[hp,ho]; exact S.gone
 ·rw[ho,he]; exact S.key
 ·rw[RO.there,hp,ho]; exact S.cnt
 ·rw[hcl,hc,hn]; exact S.claims
 ·rw[hc,hl]; exact S.cl
theorem SimO.claim {O:Off} {s:RO} (S:SimO O s) {w:Str} {i:Nat} (hi:i<s.ways.length) (hw:s.names.getD i []=w):SimO {O with claims:=O.claims ++ [w]} {s with claims:=s.claims ++ [(i:Int)]}:=by
 refine{toSimL:=⟨S.rooms,S.names,S.lane⟩,ever:=S.ever,nd:=S.nd,held:=S.held,gone:=S.gone,key:=S.key,cnt:=S.cnt,claims:=?_,cl:=?_}
 ·show O.claims ++ [w]=(s.claims ++ [(i:Int)]).map fun i=>s.names.getD i.toNat []
  rw[fP,←S.claims];simp only[fF,List.map_nil,fG,hw]
 ·intro x hx;rcases gE.1 hx with hx|hx
  ·exact S.cl x hx
  ·rw[fK] at hx;exact⟨i,hx,hi⟩
theorem J7 {O:Off} {s:RO} (S:SimO O s) {w:Str} {l:Lane} (h:OB O.ways w=some l) : 0≤s.find w:=by
 obtain⟨i,h1,_⟩:=S.findS h;omega
theorem sim_okr {O:Off} {s:RO} {o:Ord} {t:Tell} (S:SimO O s) (c:OT o t) (h0:O.wrong t=0):OkR s o:=by
 have hok:=c.ok;refine⟨hok.room,hok.way,fun e=>⟨(hok.tell e).1,(hok.tell e).2,?_⟩,fun e=>⟨hok.free e,?_⟩,hok.pack,fun e=>⟨(hok.move e).1,?_⟩⟩
 all_goals clear hok
 ·cases c with
  | least a n _ h e2=>subst h e2; obtain⟨l,hm,_⟩:=ZA h0; exact J7 S hm
  | most a n _ h e2=>subst h e2; obtain⟨l,hm,_⟩:=ZA h0; exact J7 S hm
  | claim a n _ h e2=>subst h e2; obtain⟨l,hm,_⟩:=XH h0; exact J7 S hm
  | room a h _=>subst h; exact absurd e aM
  | way a b c h _=>subst h; exact absurd e aM
  | free a h _=>subst h; exact absurd e aM
  | pack p a h _=>subst h; exact absurd e aM
  | move k p s hk h _=>subst h; rcases hk with ⟨rfl,_⟩|⟨rfl,_⟩|⟨rfl,_⟩|⟨rfl,_⟩ <;> exact absurd e aM
 ·cases c with
  | free a h e2=>subst h e2; obtain⟨l,hm,_⟩:=X5 h0; exact J7 S hm
  | least a n _ h _=>subst h; exact absurd e aM
  | most a n _ h _=>subst h; exact absurd e aM
  | claim a n _ h _=>subst h; exact absurd e aM
  | room a h _=>subst h; exact absurd e aM
  | way a b c h _=>subst h; exact absurd e aM
  | pack p a h _=>subst h; exact absurd e aM
  | move k p s hk h _=>subst h; rcases hk with ⟨rfl,_⟩|⟨rfl,_⟩|⟨rfl,_⟩|⟨rfl,_⟩ <;> exact absurd e aM
 ·cases c with
  | move k p x hk h e2=>
   subst h e2;obtain⟨d,hm⟩:=X6 h0;obtain⟨j,h1,_⟩:=S.heldS hm;show 0≤s.held p;omega
  | free a h _=>subst h; exact absurd e aM
  | least a n _ h _=>subst h; exact absurd e aM
  | most a n _ h _=>subst h; exact absurd e aM
  | claim a n _ h _=>subst h; exact absurd e aM
  | room a h _=>subst h; exact absurd e aM
  | way a b c h _=>subst h; exact absurd e aM
  | pack p a h _=>subst h; exact absurd e aM
theorem YO {s:RO} {i:Nat} {w:RW} (hi:i<s.ways.length) (hw:w.name=(s.ways.getD i default).name):RO.names {s with ways:=s.ways.set i w} = s.names:=JN hi hw
theorem Jg {l:List RP} {j:Nat} {q p:RP} (hj:j<l.length) (hp:p∈l.set j q):p=q∨∃ k,k<l.length∧k≠j∧p=l.getD k default:=by
 obtain⟨k,hk,rfl⟩:=List.mem_iff_getElem.1 hp;rw[gI] at hk;by_cases h:k=j
 ·subst h; left; rw[List.getElem_set_self]
 ·right; refine⟨k,hk,h,?_⟩;rw[List.getElem_set_ne (fun e=>h e.symm),fE,fA hk]; rfl
theorem U3 {l:List RP} (nd:(l.map (·.number)).Nodup) {j k:Nat} (hj:j<l.length) (hk:k<l.length) (h:k≠j):(l.getD k default).number≠(l.getD j default).number:=by
 intro e;have e1:(l.map (·.number))[k]? = some (l.getD j default).number:=by rw[fX,fA hk,Option.map_some,←e,fE,fA hk]; rfl
 have e2:(l.map (·.number))[j]? = some (l.getD j default).number:=by rw[fX,fA hj,Option.map_some,fE,fA hj]; rfl
 exact h (XR nd e1 e2)
end Go.Am
namespace Go.Am
section
variable {O:Off} {s:RO} (S:SimO O s) (hW:WF O)
include S hW
theorem We {w:Str} {l:Lane} {n:Int} {g:Bool} (hm:OB O.ways w=some l) (hp:l.paid=false) (hn : 0≤n):SimO (O.mod w (chB n g)) {s with ways:=Xz s.ways (s.find w) fun x=>if g then {x with top:=n} else {x with told:=n}}:=by
  obtain⟨i,h1,h2,h3,h4,_⟩:=S.findS hm;rw[QX h1];refine S.lift (JV S hW h3 hp hn) rfl rfl rfl rfl rfl (YO (by rw[S.len]; exact h2) ?_)
  cases g <;> rfl
theorem tell_free {w:Str} {l:Lane} (hm:OB O.ways w=some l) (hp:l.paid=false):SimO (O.mod w fun l=>{l with told:=none,top:=none}) {s with ways:=Xz s.ways (s.find w) fun x=>{x with told:=-1,top:=-1}}:=by
 obtain⟨i,h1,h2,h3,h4,_⟩:=S.findS hm;obtain⟨_,h6,r⟩:=at_i S h3;rw[QX h1];refine S.lift (S.toSimL.setL hW.nd h3 (ps:=s.packs) rfl (r.freed hp) (fun j hj _=>S.lane j hj)) rfl rfl rfl rfl rfl (YO h6 rfl)
theorem tell_claim {w:Str} {l:Lane} {n:Int} (hm:OB O.ways w=some l) (hn : 0≤n):SimO {O.mod w (fun l=>{l with paid:=true,told:=some n}) with claims:=O.claims ++ [w]} {s with ways:=Xz s.ways (s.find w) fun x=>{x with paid:=n},claims:=s.claims ++ [s.find w]}:=by
 obtain⟨i,h1,h2,h3,h4,h5⟩:=S.findS hm;obtain⟨_,h6,r⟩:=at_i S h3;rw[QX h1,h1];have S1:SimO (O.mod w (fun l=>{l with paid:=true,told:=some n})) {s with ways:=s.ways.set i {(s.ways.getD i default) with paid:=n}}:=S.lift (S.toSimL.setL hW.nd h3 (ps:=s.packs) rfl (r.claimed hn) (fun j hj _=>S.lane j hj)) rfl rfl rfl rfl rfl (YO h6 rfl);exact S1.claim (w:=w) (i:=i) (by show i<(s.ways.set i _).length; rw[gI]; exact h6) (by have e:=YO (w:={(s.ways.getD i default) with paid:=n}) h6 rfl; exact(congrArg (fun l=>List.getD l i []) e).trans h5)
theorem tell_room {a:Str}:SimO {O with rooms:=O.rooms ++ [a]} {s with rooms:=s.rooms ++ [a]}:=by
 have _:=hW;refine S.lift ⟨?_,S.names,S.lane⟩ rfl rfl rfl rfl rfl rfl;show s.rooms ++ [a]=O.rooms ++ [a];rw[S.rooms]
theorem tell_way {a b c:Str} (hb:b∈O.rooms) (hc:c∈O.rooms):SimO {O with ways:=O.ways ++ [(a,⟨O.ways.length,Kd O.rooms b,Kd O.rooms c,none,none,[],false⟩)]} {s with ways:=s.ways ++ [⟨a,s.room b,s.room c,-1,-1,-1⟩]}:=by
  have _:=hW;have hl:=S.len;have hnl:s.names.length=s.ways.length:=fY _;have hnm:RO.names {s with ways:=s.ways ++ [⟨a,s.room b,s.room c,-1,-1,-1⟩]} = s.names ++ [a]:=by simp[RO.names]
  have hget:∀ i,i<s.ways.length→(s.names ++ [a]).getD i []=s.names.getD i []:=fun i hi=>Xk _ aB
  have room:∀ x,x∈O.rooms→s.room x=(Kd O.rooms x:Int):=fun x hx=>by rw[RO.room,S.rooms,ixE,if_pos hx]
  refine{toSimL:=⟨S.rooms,?_,?_⟩,ever:=S.ever,nd:=S.nd,held:=?_,gone:=S.gone,key:=S.key,cnt:=S.cnt,claims:=?_,cl:=?_}
  · rw[hnm,S.names,fP]; rfl
  · intro i hi;dsimp only at hi⊢;rw[fC,fN] at hi;by_cases h:i<O.ways.length
    · rw[Xk _ h,Xk _ aB]; exact S.lane i h
    · obtain rfl:i=O.ways.length:=by omega
      have e1:(O.ways ++ [(a,(⟨O.ways.length,Kd O.rooms b,Kd O.rooms c,none,none,[],false⟩:Lane))]).getD O.ways.length default=(a,⟨O.ways.length,Kd O.rooms b,Kd O.rooms c,none,none,[],false⟩):=by
        rw[fE,fW]; rfl
      have e2:(s.ways ++ [(⟨a,s.room b,s.room c,-1,-1,-1⟩:RW)]).getD O.ways.length default=⟨a,s.room b,s.room c,-1,-1,-1⟩:=by
        rw[←hl,fE,fW]; rfl
      rw[e1,e2];refine⟨room b hb,room c hc,?_,fun h=>bV,fun _=>⟨rfl,rfl,rfl⟩,fun m hm=>(by cases hm),fun m hm=>(by cases hm)⟩;have:s.packs.filter (Q4 (O.ways.length:Nat)) = []:=by
        rw[List.filter_eq_nil_iff];intro p hp hcb;unfold Q4 at hcb;rw[Bool.and_eq_true,decide_eq_true_eq,decide_eq_true_eq] at hcb;obtain⟨w,i,_,h2,h3,_⟩:=S.held p hp hcb.2;omega
      show []=(s.packs.filter (Q4 (O.ways.length:Nat))).map (·.number);rw[this]; rfl
  · intro p hp h;obtain⟨w,i,h1,h2,h3,h4⟩:=S.held p hp h;refine⟨w,i,h1,h2,?_,?_⟩
    · show i<(s.ways ++ [_]).length;rw[fC]; omega
    · rw[hnm,hget i h3]; exact h4
  · rw[hnm];refine S.claims.trans (List.map_congr_left fun x hx=>?_);obtain⟨k,rfl,hk⟩:=S.cl x hx;exact(hget _ hk).symm
  · intro x hx;obtain⟨k,h1,hk⟩:=S.cl x hx;refine⟨k,h1,?_⟩;show k<(s.ways ++ [_]).length;rw[fC]; omega
theorem tell_pack {p:Int} {w:Str} {l:Lane} (hm:OB O.ways w=some l) (hp:p ∉ O.ever):SimO {O.mod w (chP p) with packs:=O.packs ++ [(p,(w,1))],ever:=O.ever ++ [p]} {s with packs:=s.packs ++ [⟨p,s.find w,1⟩]}:=by
 obtain⟨i,h1,h2,h3,h4,h5⟩:=S.findS hm;rw[h1];have L:=W6 S hW h3 (p:=p);have hpk:p ∉ O.packs.map (·.1):=fun h=>hp (S.key p ((ZZ _ _).2 h))
 have hold:∀ n,n∈O.ever→OB (O.packs ++ [(p,(w,(1:Int)))]) n=OB O.packs n:=by
  intro n hn;have hne:n≠p:=fun e=>hp (e ▸ hn)
  rw[←Ja (b:=(w,(1:Int))) hpk,Zu,if_neg hne]
 have hnum:∀ q∈s.packs,q.number∈O.ever:=fun q hq=>by rw[←S.ever]; exact fJ.2 ⟨q,hq,rfl⟩
 refine{toSimL:=⟨L.rooms,L.names,L.lane⟩,ever:=?_,nd:=?_,held:=?_,gone:=?_,key:=?_,cnt:=?_,claims:=S.claims,cl:=S.cl}
 ·show(s.packs ++ [_]).map _=O.ever ++ [p];rw[fP,S.ever]; rfl
 ·show((s.packs ++ [_]).map _).Nodup;rw[fP,List.nodup_append];refine⟨S.nd,by simp,?_⟩;intro a ha b hb;rw[S.ever] at ha;simp only[fF,List.map_nil,fK] at hb;subst hb;intro e; exact hp (e ▸ ha)
 ·intro q hq hst;show ∃ w' i',OB (O.packs ++ [(p,(w,1))]) q.number=_∧_;rcases gE.1 hq with hq|hq
  ·rw[hold _ (hnum q hq)]; exact S.held q hq hst
  ·rw[fK] at hq;subst hq;refine⟨w,i,?_,rfl,by rw[S.len]; exact h2,h5⟩;rw[←Ja (b:=(w,(1:Int))) hpk,Zu,if_pos rfl]
 ·intro q hq hst;show OB (O.packs ++ [(p,(w,1))]) q.number=none;rcases gE.1 hq with hq|hq
  ·rw[hold _ (hnum q hq)]; exact S.gone q hq hst
  ·rw[fK] at hq;subst hq; exact absurd (show(0:Int)<1 by decide) hst
 ·intro n hn;show n∈O.ever ++ [p];have hn:(OB (O.packs ++ [(p,(w,(1:Int)))]) n).isSome=true:=hn;rw[←Ja (b:=(w,(1:Int))) hpk,Zu] at hn;by_cases he:n=p
  ·rw[he]; simp
  ·rw[if_neg he] at hn; exact List.mem_append_left _ (S.key n hn)
 ·show RO.there _=(((O.packs ++ [_]).length:Nat):Int);unfold RO.there;rw[List.countP_append,fC];have:=S.cnt;unfold RO.there at this;rw[List.countP_singleton,fN];simp only[show decide ((0:Int)<1)=true from rfl,if_true];omega
theorem J0 {p x:Int} {d:Str × Int} (hm:OB O.packs p=some d) (hx : 0<x):SimO {O with packs:=Qj O.packs p (d.1,x)} {s with packs:=YH s.packs (s.held p) x}:=by
 have _:=hW;obtain⟨j,h1,hj,h3,h4,h5,i,h6,h7,h8⟩:=S.heldS hm;rw[YY h1];generalize hq:({(s.packs.getD j default) with state:=x}:RP)=q;have q1:q.number=(s.packs.getD j default).number:=by rw[←hq]
 have q2:q.way=(s.packs.getD j default).way:=by rw[←hq]
 have q3:q.state=x:=by rw[←hq]
 have hmap:(s.packs.set j q).map (·.number)=s.packs.map (·.number):=JL hj q1;have hcb:∀ k:Int,Q4 k q=Q4 k (s.packs.getD j default):=by
  intro k;unfold Q4;rw[q2,q3,h4,decide_eq_true hx,decide_eq_true h5]
 have hin:p∈O.packs.map (·.1):=(ZZ _ _).1 (by rw[hm]; rfl);refine{toSimL:=⟨S.rooms,S.names,?_⟩,ever:=hmap.trans S.ever,nd:=(by show((s.packs.set j q).map _).Nodup; rw[hmap]; exact S.nd),held:=?_,gone:=?_,key:=?_,cnt:=?_,claims:=S.claims,cl:=S.cl}
 ·intro k hk;have r:=S.lane k hk;refine⟨r.fr,r.to,?_,r.paid,r.free,r.tn,r.pn⟩;show _=((s.packs.set j q).filter _).map _;rw[RM hj (hcb k) q1]; exact r.pks
 ·intro y hy hst;show ∃ w' i',OB (Qj O.packs p (d.1,x)) y.number=_∧_;rcases Jg hj hy with rfl|⟨k,hk,hkj,rfl⟩
  ·refine⟨d.1,i,?_,q2.trans h6,h7,h8⟩;rw[Zu,if_pos (q1.trans h3),q3]
  ·have:=U3 S.nd hj hk hkj;rw[h3] at this;rw[Zu,if_neg this];exact S.held _ (getD_mem hk) hst
 ·intro y hy hst;show OB (Qj O.packs p (d.1,x)) y.number=none;rcases Jg hj hy with rfl|⟨k,hk,hkj,rfl⟩
  ·rw[q3] at hst; exact absurd hx hst
  ·have:=U3 S.nd hj hk hkj;rw[h3] at this;rw[Zu,if_neg this];exact S.gone _ (getD_mem hk) hst
 ·intro n hn;have hn:(OB (Qj O.packs p (d.1,x)) n).isSome=true:=hn;rw[Zu] at hn;by_cases he:n=p
  ·rw[he]; exact S.key p (by rw[hm]; rfl)
  ·rw[if_neg he] at hn; exact S.key n hn
 ·show((s.packs.set j q).countP _:Int)=(((Qj O.packs p (d.1,x)).length:Nat):Int);rw[Tx,if_pos hin];have h9:=cnt_set (f:=fun p=>decide (0<p.state)) (q:=q) hj;have h10:=S.cnt;unfold RO.there at h10
  try dsimp only at h9
  rw[q3,h4,decide_eq_true hx,decide_eq_true h5] at h9;omega
theorem tell_burn {p:Int} {d:Str × Int} {l:Lane} (hm:OB O.packs p=some d) (hl:OB O.ways d.1=some l):SimO {O.mod d.1 (fun l=>{l with packs:=l.packs.filter fun q=>!decide (q=p)}) with packs:=Z4 O.packs p} {s with packs:=YH s.packs (s.held p) 0}:=by
  obtain⟨j,h1,hj,h3,h4,h5,i,h6,h7,h8⟩:=S.heldS hm;obtain⟨i2,f1,f2,f3,f4,f5⟩:=S.findS hl;obtain rfl:i2=i:=by
    have hn1:s.names[i2]? = some d.1:=by
      rw[fE,fA (by rw[RO.names,fY,S.len]; exact f2)] at f5;rw[fA (by rw[RO.names,fY,S.len]; exact f2)];exact congrArg some f5
    have hn2:s.names[i]? = some d.1:=by
      rw[fE,fA (by rw[RO.names,fY]; exact h7)] at h8;rw[fA (by rw[RO.names,fY]; exact h7)];exact congrArg some h8
    exact XR (by rw[S.names]; exact hW.nd) hn1 hn2
  rw[YY h1];generalize hq:({(s.packs.getD j default) with state:=0}:RP)=q;have q1:q.number=(s.packs.getD j default).number:=by rw[←hq]
  have q3:q.state=0:=by rw[←hq]
  have hmap:(s.packs.set j q).map (·.number)=s.packs.map (·.number):=JL hj q1;have hcq:∀ k:Int,Q4 k q=false:=fun k=>by unfold Q4; rw[q3]; simp
  have hco:∀ k:Nat,k≠i2→Q4 k (s.packs.getD j default)=false:=fun k hk=>by unfold Q4; rw[h6,decide_eq_false aB]; rfl
  have hci:Q4 i2 (s.packs.getD j default)=true:=by unfold Q4; rw[h6,h4,decide_eq_true rfl,decide_eq_true h5]; rfl
  have hdel:=fun n=>mget_mdel hW.pnd (k:=p) (n:=n)
  obtain ⟨_, g2, r⟩ := at_i S f3;have L := S.toSimL.setL hW.nd f3 (f := fun l => { l with packs := l.packs.filter fun q => !decide (q = p) }) (w' := s.ways.getD i2 default) (ps := s.packs.set j q) rfl
    ⟨r.fr,r.to,by rw[filt_burn hj (hcq i2) hci S.nd,h3,←r.pks],r.paid,r.free,r.tn,r.pn⟩
    (fun k hk hne=>by
      have rk:=S.lane k hk;exact⟨rk.fr,rk.to,by rw[RM hj ((hcq k).trans (hco k hne).symm) q1]; exact rk.pks,rk.paid,rk.free,rk.tn,rk.pn⟩)
  rw[Ta g2] at L;refine{toSimL:=⟨L.rooms,L.names,L.lane⟩,ever:=hmap.trans S.ever,nd:=(by show((s.packs.set j q).map _).Nodup; rw[hmap]; exact S.nd),held:=?_,gone:=?_,key:=?_,cnt:=?_,claims:=S.claims,cl:=S.cl}
  · intro y hy hst;show ∃ w' i',OB (Z4 O.packs p) y.number=_∧_;rcases Jg hj hy with rfl|⟨k,hk,hkj,rfl⟩
    · rw[q3] at hst; exact absurd hst aD
    · have:=U3 S.nd hj hk hkj;rw[h3] at this;rw[hdel,if_neg this];exact S.held _ (getD_mem hk) hst
  · intro y hy hst;show OB (Z4 O.packs p) y.number=none;rcases Jg hj hy with rfl|⟨k,hk,hkj,rfl⟩
    · rw[hdel,if_pos (q1.trans h3)]
    · have:=U3 S.nd hj hk hkj;rw[h3] at this;rw[hdel,if_neg this];exact S.gone _ (getD_mem hk) hst
  · intro n hn;have hn:(OB (Z4 O.packs p) n).isSome=true:=hn;rw[hdel] at hn;by_cases he:n=p
    · rw[if_pos he] at hn; cases hn
    · rw[if_neg he] at hn; exact S.key n hn
  · show((s.packs.set j q).countP _:Int)=(((Z4 O.packs p).length:Nat):Int);have hin:p∈O.packs.map (·.1):=(ZZ _ _).1 (by rw[hm]; rfl);have hlt:=XQ hin;rw[fY] at hlt;rw[Wv hin,List.length_eraseIdx_of_lt hlt];have h9:=cnt_set (f:=fun p=>decide (0<p.state)) (q:=q) hj;have h10:=S.cnt;unfold RO.there at h10
    try dsimp only at h9
    rw[q3,h4,decide_eq_true h5] at h9;simp only[show decide ((0:Int)<0)=false from rfl,if_true] at h9;simp at h9;omega
end
theorem sim_tell {O:Off} {s:RO} {o:Ord} {t:Tell} (S:SimO O s) (hW:WF O) (c:OT o t) (h0:O.wrong t=0):SimO (O.tell t) (s.done o):=by
 cases c with
 | room a h e=>subst h e; rw[WQ rfl]; exact tell_room S hW
 | way a b c h e=>
  subst h e;obtain⟨_,h2,h3,_⟩:=JT h0;rw[RH rfl]; exact tell_way S hW h2 h3
 | least a n hn h e=>
  subst h e;obtain⟨l,h1,h2,_⟩:=ZA h0;rw[XZ rfl]; exact We S hW (g:=false) h1 h2 hn
 | most a n hn h e=>
  subst h e;obtain⟨l,h1,h2,_⟩:=ZA h0;rw[Yw rfl]; exact We S hW (g:=true) h1 h2 hn
 | free a h e=>
  subst h e;obtain⟨l,h1,h2⟩:=X5 h0;rw[WP rfl]; exact tell_free S hW h1 h2
 | claim a n hn h e=>
  subst h e;obtain⟨l,h1,h2⟩:=XH h0;rw[UQ rfl]; exact tell_claim S hW h1 hn
 | pack p a h e=>
  subst h e;obtain⟨h1,l,h2,_⟩:=Jk h0;rw[Yx rfl]; exact tell_pack S hW h2 h1
 | move k p x hk h e=>
  subst h e;obtain⟨d,hm⟩:=X6 h0;have et:∀ y:Int,0<y→O.tell (.move p y) = {O with packs:=Qj O.packs p (d.1,y)}:=fun y hy=>by
   show(match OB O.packs p with|none=>O|some d=>if y=0 then _ else _)=_;rw[hm]; exact if_neg aB
  rcases hk with ⟨rfl,rfl⟩|⟨rfl,rfl⟩|⟨rfl,rfl⟩|⟨rfl,rfl⟩
  ·rw[WR rfl,et 2 aD]; exact J0 S hW hm aD
  ·rw[WO rfl,et 3 aD]; exact J0 S hW hm aD
  ·rw[WM rfl,et 1 aD]; exact J0 S hW hm aD
  ·obtain⟨l,hl⟩:=hW.homeM hm;rw[WN rfl];have e2:O.tell (.move p 0) = {O.mod d.1 (fun l=>{l with packs:=l.packs.filter fun q=>!decide (q=p)}) with packs:=Z4 O.packs p}:=by
    show(match OB O.packs p with|none=>O|some d=>if (0:Int)=0 then _ else _)=_;rw[hm]; exact if_pos rfl
   rw[e2]; exact tell_burn S hW hm hl
theorem sim0:SimO VE ro0:=by
 refine{toSimL:=⟨rfl,rfl,fun i h=>bV⟩,ever:=rfl,nd:=List.nodup_nil,held:=fun p h=>bV,gone:=fun p h=>bV,key:=fun n h=>bV,cnt:=rfl,claims:=rfl,cl:=fun i h=>bV}
def Qh (lines:List Str):RO:=lines.foldl (fun s x=>s.done (XM x)) ro0
theorem VG (lines:List Str) (x:Str):Qh (lines ++ [x])=(Qh lines).done (XM x):=by simp[Qh]
theorem done_small {s:RO} {o:Ord} {k:Nat} (h:s.rooms.length≤k∧s.ways.length≤k∧s.packs.length≤k∧s.claims.length≤k):(s.done o).rooms.length≤k+1∧(s.done o).ways.length≤k+1∧(s.done o).packs.length≤k+1∧(s.done o).claims.length≤k+1:=by
 obtain⟨h1,h2,h3,h4⟩:=h;unfold RO.done
 repeat' split
 all_goals first|omega|(simp only[fC,fN,Xz,YH,gI]; omega)
theorem JP (lines:List Str):(Qh lines).rooms.length≤lines.length∧(Qh lines).ways.length≤lines.length∧(Qh lines).packs.length≤lines.length∧(Qh lines).claims.length≤lines.length:=by
 generalize hn:lines.length=n
 induction n generalizing lines with
 | zero=>rw[fR hn]; exact⟨fL _,fL _,fL _,fL _⟩
 | succ n ih=>
  have hne:lines≠[]:=by intro e; rw[e] at hn; cases hn
  obtain⟨l,x,rfl⟩:∃ l x,lines=l ++ [x]:=⟨lines.dropLast,lines.getLast hne,(List.dropLast_concat_getLast hne).symm⟩;rw[VG];exact done_small (ih l (by simpa using hn))
theorem Done.sim {lines:List Str} (hD:Done lines):SimO (after lines) (Qh lines):=by
 induction hD with
 | nil=>exact sim0
 | @snoc lines line h he ih=>
  rw[Xo,VG];have h1:=ZR he;exact sim_tell ih h.wf.1 (ot_of h1.1) h1.2.1
theorem Done.okr {lines:List Str} (hD:Done lines) {x:Str} (hx:Kf lines x=0):OkR (Qh lines) (XM x):=by
 have h1:=ZR hx;exact sim_okr hD.sim (ot_of h1.1) h1.2.1
theorem Done.wrongR {lines:List Str} (hD:Done lines) {x:Str} (hx:Ku x=0):(Qh lines).wrong (XM x)=(after lines).wrong (Qz x):=sim_wrong hD.sim hD.wf.1 (ot_of hx)
end Go.Am
namespace Go.Am
structure RRb (h:AHeap) (o vl:AV) (lines:List Str):Prop where
 ad:AddrOf o o 0 0
 rd:Rd h o 0 [.bool true,vl]
 log:WRow h vl lines
theorem RRb.ext {h h':AHeap} {o vl:AV} {lines:List Str} (r:RRb h o vl lines) (k:Keeps h h'):RRb h' o vl lines:=⟨r.ad,r.rd.ext k,r.log.ext k⟩
structure RbOk (o vl vw:AV) (lines full:List Str):Prop where
 ad:AddrOf o o 0 0
 part:∀ h,WRow h vw full→WRow h vl lines
def RB (h0 h:AHeap) (o:AV) (lines:List Str) (G:List Obj):Prop:=∃ vl vw full,RbOk o vl vw lines full∧St h0 h (⟨o,0,[.bool true,vl],true⟩::⟨vw,1,wcs full,true⟩::G)
theorem St.rrb {h0 h:AHeap} {o vl vw:AV} {lines full:List Str} {G:List Obj} (st:St h0 h (⟨o,0,[.bool true,vl],true⟩::⟨vw,1,wcs full,true⟩::G)) (ok:RbOk o vl vw lines full):RRb h o vl lines:=⟨ok.ad,st.rd 0 rfl,ok.part h (st.rd 1 rfl)⟩
theorem part_last {r vl:AV} {lines:List Str} (h:PartOf r vl 1 0 (lines.length - 1)) {hx:AHeap} (hv:WRow hx vl lines):WRow hx r lines.dropLast:=by
 have:=Rd.part hv h (fV _);have e:wcs lines.dropLast=List.take ((lines.length - 1 - 0)*1) (List.drop (0*1) (wcs lines)):=by
  rw[Nat.zero_mul,List.drop_zero,Nat.mul_one,Nat.sub_zero,wcs,←List.map_take,List.dropLast_eq_take]
 unfold WRow;rw[e]; exact this
theorem sum_next {l:Str} {i:Nat} (h:i<l.length):Go.Proofs.Tryz.sumTo (l.take (i+1))=(29*Go.Proofs.Tryz.sumTo (l.take i)+((l.getD i 0).toNat:Int)) % 9973:=by
 rw[←Xn (d:=0) h];simp[Go.Proofs.Tryz.sumTo]
theorem rAfter_rro {lines:List Str} (hD:Done lines) (i:Nat):(Qh (lines.take i)).rooms.length≤100∧(Qh (lines.take i)).ways.length≤100∧(Qh (lines.take i)).packs.length≤100∧(Qh (lines.take i)).claims.length≤100:=by
 have h:=JP (lines.take i);have h2:=hD.wf.2.1;have h3:(lines.take i).length≤lines.length:=by rw[List.length_take]; exact Nat.min_le_right _ _
 omega
theorem rAfter_rro' {lines:List Str} (hD:Done lines):(Qh lines).rooms.length≤100∧(Qh lines).ways.length≤100∧(Qh lines).packs.length≤100∧(Qh lines).claims.length≤100:=by
 have h:=JP lines;have h2:=hD.wf.2.1;omega
theorem Uq {lines:List Str} {line:Str} (hD:Done lines) (h:Ku line=0):Kf lines line=if (Qh lines).wrong (XM line)=0∧lines.length=100 then 16 else (Qh lines).wrong (XM line):=by
  rw[hD.wrongR h];unfold Kf;dsimp only;rw[if_pos h]
theorem UH {lines:List Str} (hD:Done lines):∀ k:Nat,k≤lines.length→(bodyT lines k).length≤9+46*k:=by
 have hsm:=hD.small;have hn:=hD.wf.2.1;intro k
 induction k with
 | zero=>intro _; exact fL _
 | succ k ih=>
  intro hk;have h1:=ih aB;have h2:=Go.Proofs.Tryz.itoa_len k aB;have h3:(lines.getD k []).length≤40:=hsm _ (getD_mem hk);show(bodyT lines k ++ lineT k (lines.getD k [])).length≤_;unfold lineT;simp only[fC,List.length_cons,List.length_nil];omega
theorem asked_no {lines:List Str} {line:Str} (h:Ku line≠0):Kf lines line=Ku line:=by
 unfold Kf;dsimp only;rw[if_neg h,if_neg (fun x=>h x.1)]
theorem Jb {h:AHeap} {o vl:AV} {lines:List Str} (r:RRb h o vl lines):ACalls Go.Proofs.Tryz.prog 69 [o] h (fun q h'=>q = .bool false∧h=h'):=by
 refine OS 12 [.tmp 2] Go.Proofs.Tryz.func69 rfl aD rfl rfl (fO rfl) ?_;show KA _ 12 _ _ [(0,o)] _;refine O8 [0] ?_;refine Oz ?_;refine KOps.ptrEqN aF r.ad ?_;refine Oz ?_;refine Om r.ad ?_;refine Oh (dj:=5) rfl rfl ?_;refine Ob r.ad ?_;intro p8 hp8;refine Oh (dj:=5) rfl rfl ?_;refine Oe hp8 r.rd rfl ?_;refine Oh (dj:=5) rfl rfl ?_;refine KOps.notT ?_;refine O6 ?_;refine O8 [2] ?_;refine Og ?_;exact⟨rfl,rfl⟩
theorem new14_c {h:AHeap}:ACalls Go.Proofs.Tryz.prog 17 [] h (fun q h'=>RB h h' q [] []):=by
 refine OS 3 [.tmp 0] Go.Proofs.Tryz.func17 rfl aD rfl rfl (fO rfl) ?_;have hS:=St.refl h;show KA _ 3 _ _ [] _;refine Oa [] ?_;refine Ov ?_;refine O3 (zs:=[.bool false,.nils]) (cs:=[_,_]) aF aI aF (.cons (off:=0) (s:=1) aF (AV.cells_one aG) rfl aD .nil) aI ?_;refine OP hS aE ?_;intro p2 h' hp2 hS;refine Oa [0] ?_;refine Og ?_;exact⟨.nils,.nils,[],⟨hp2,fun _ h=>h⟩,St.pick [1,0] aD rfl (hS.nil 1)⟩
theorem after14_c {h:AHeap} {v:AV} {lines:List Str} (hv:WRow h v lines) (hD:Done lines):ACalls Go.Proofs.Tryz.prog 112 [v] h (fun q h'=>∃ r0 r1 r2 r3,q = .agg [r0,r1,r2,r3]∧St h h' (RoO r0 r1 r2 r3 (Qh lines))):=by
 refine KA.fnH 26 [.cell 2 166] Go.Proofs.Tryz.func112 rfl aD rfl rfl (fO rfl) ?_;have hS:=St.refl h;have hln:=hD.wf.2.1;show KA _ 26 _ _ [(0,v)] _;refine Ov ?_;refine Kg hS ?_;intro p2 h' hp2 hS;refine cO ?_;refine Ov ?_;refine O3 (zs:=[.nils,.nils,.nils,.nils]) (cs:=[_,_,_,_]) aF aI aF .nil aI ?_;refine Kg hS ?_;intro p3 h' hp3 hS;refine OQ hS rfl (i:=0) rfl hp3 aE aI aI aD ?_;intro h' hS;simp only[fI,fU,fH] at hS;refine Oq [0,2,3] ?_;refine dQ ?_;refine Kc (X:=Nat × AV × AV × AV × AV) (fun x=>[(0,v),(2,p2),(3,p3),(4,.int .i64 (x.1:Int))]) (fun x h'=>x.1≤lines.length∧St h h' [⟨p3,0,[x.2.1,x.2.2.1,x.2.2.2.1,x.2.2.2.2],true⟩,⟨x.2.1,1,wcs (Qh (lines.take x.1)).rooms,true⟩,⟨x.2.2.1,6,flr rwc (Qh (lines.take x.1)).ways,true⟩,⟨x.2.2.2.1,3,flr rpc (Qh (lines.take x.1)).packs,true⟩,⟨x.2.2.2.2,1,ints (Qh (lines.take x.1)).claims,true⟩,⟨p2,0,[.nils,.nils,.nils,.nils],true⟩]) (fun x=>lines.length - x.1) (0,.nils,.nils,.nils,.nils) ?_ ?_
 ·exact⟨fV _,St.pick [4,0,1,2,3,5] aD rfl ((((hS.nil 1).nil 3).nil 6).nil 1)⟩
 rintro⟨i,r0,r1,r2,r3⟩ h5 ⟨hi,hS⟩;dsimp only at hi hS⊢;refine Oc ?_;refine O9 (Rd.ext hS.keeps hv) ?_;refine Oa [0,2,3,4,11] ?_;refine Oj ?_ ?_
 ·intro c11;have hlt:i<lines.length:=by omega
  obtain⟨z1,z2,z3,z4⟩:=rAfter_rro hD i;refine Oo [0,2,3,4] ?_;refine dc ?_;refine On (Rd.ext hS.keeps hv) (j:=i) rfl aA ?_;intro p17 hp17;refine OV hp17 (Rd.ext hS.keeps hv) aA ?_;refine Oi rfl (R7 (l:=(lines.getD i [])) (Nat.le_trans (hD.small _ (getD_mem hlt)) aB)) ?_;rintro _ h19 ⟨vn,vm,rfl,hS19⟩;replace hS:St _ _ (_::_::_):=St.trans hS hS19;refine Oc ?_;refine Kg hS ?_;intro p5 h' hp5 hS;refine OQ hS rfl (i:=0) rfl hp5 az aI aI aD ?_;intro h' hS;simp only[fI,fU,fH] at hS;refine Oa [0,2,3,4,5] ?_;refine Kk rfl ?_;refine Ow hS (i:=3) rfl hp3 aI aD ?_;refine Ow hS (i:=0) rfl hp5 aI aD ?_;refine Oi rfl (done_c (RRo.mk (s:=(Qh (lines.take i))) (hS.rd 4 rfl) (hS.rd 5 rfl) (hS.rd 6 rfl) (hS.rd 7 rfl) aB aB aB aB) (hS.rd 1 rfl) (hS.rd 2 rfl) ((hD.take i).okr (hD.one i hlt))) ?_;rintro _ h24 ⟨w0,w1,w2,w3,rfl,hS24⟩;replace hS:St _ _ (_::_::_::_::_):=St.trans hS hS24;refine OQ hS rfl (i:=7) rfl hp3 (by have q0:=St.one hS (k:=0) rfl; have q1:=St.one hS (k:=1) rfl; have q2:=St.one hS (k:=2) rfl; have q3:=St.one hS (k:=3) rfl; dsimp only at q0 q1 q2 q3; simp only[List.all_cons,List.all_nil,q0,q1,q2,q3] <;> rfl) aI aI aD ?_;intro h' hS;simp only[fI,fU,fH] at hS;refine cE ?_;refine Ot [0,2,3,4] ?_;refine br ?_;rw[←VG,Xn hlt] at hS;exact lpN (i+1,w0,w1,w2,w3) ⟨by dsimp only; omega,St.pick [7,0,1,2,3,12] aD rfl hS⟩ aL
 ·intro c11;refine bf ?_;refine Ot [2,3] ?_;refine Ov ?_;refine Ow hS (i:=0) rfl hp3 aI aD ?_;refine OQ hS rfl (i:=5) rfl hp2 am aI aI aD ?_;intro h' hS;simp only[fI,fU,fH] at hS;refine Oq [2] ?_;refine KL ?_;refine QA hS (i:=5) rfl hp2 aI aQ ?_;have hie:i=lines.length:=by omega
  subst hie;rw[gO] at hS;exact⟨_,_,_,_,rfl,St.pick [1,2,3,4] aD rfl hS⟩
theorem would14_c {h:AHeap} {o vl:AV} {lines:List Str} (r:RRb h o vl lines) (hD:Done lines) {line:Str} (hl:line.length≤1000000):ACalls Go.Proofs.Tryz.prog 71 [o,.str (wd line)] h (fun q h'=>q = .int .i64 (Kf lines line)∧Keeps h h'):=by
 refine OS 34 [.tmp 4] Go.Proofs.Tryz.func71 rfl aD rfl rfl (fO rfl) ?_;have hS:=St.refl h;have hln:=hD.wf.2.1;obtain⟨z1,z2,z3,z4⟩:=rAfter_rro' hD;show KA _ 34 _ _ [(0,o),(1,.str (wd line))] _;refine cA ?_;refine Oi rfl (Jb (r.ext hS.keeps)) ?_;rintro _ _ ⟨rfl,rfl⟩;refine Oq [0,1,8] ?_;refine OU ?_;refine Oo [0,1] ?_;refine Oc ?_;refine Oi rfl (R7 (l:=line) hl) ?_;rintro _ h19 ⟨vn,vm,rfl,hS19⟩;replace hS:St _ _ (_::_::_):=St.trans hS hS19;refine Oc ?_;refine Kg hS ?_;intro p5 h' hp5 hS;refine OQ hS rfl (i:=0) rfl hp5 az aI aI aD ?_;intro h' hS;simp only[fI,fU,fH] at hS;refine Oa [0,5,6] ?_;refine Oa [0,5,6,15] ?_;refine Oj ?_ ?_
 ·intro c15;rw[c15];refine OW [4] mixed rfl aF ?_;refine Ok ?_;refine cM ?_;intro p18 hp18;refine Oe hp18 (Rd.ext hS.keeps r.rd) rfl ?_;refine Ke (by intro _ _ hr; obtain⟨_,_,_,_,_,hq⟩:=hr; exact hq.keeps) (after14_c (Rd.ext hS.keeps r.log) hD) ?_;rintro _ h20 ⟨w0,w1,w2,w3,rfl,hS20⟩;replace hS:St _ _ (_::_::_::_::_):=St.trans hS hS20;refine Ow hS (i:=4) rfl hp5 aI aD ?_;refine Oi rfl (rwrong_c (RRo.mk (s:=Qh lines) (hS.rd 0 rfl) (hS.rd 1 rfl) (hS.rd 2 rfl) (hS.rd 3 rfl) aB aB aB aB) (hS.rd 5 rfl) (hS.rd 6 rfl) (ot_of c15).ok ⟨by omega,by omega,by omega,by omega⟩) ?_;rintro _ hx ⟨rfl,hK⟩;replace hS:St _ _ _:=St.trans hS (St.ofK hK)
  try simp only[fQ] at hS
  refine Oa [0,6] ?_;refine Oc ?_;refine Ox (dj:=25) rfl rfl true false rfl ?_ ?_
  ·intro g25;have g25:=of_decide_eq_true g25;refine Oc ?_;refine Om r.ad ?_;refine Oh (dj:=25) rfl rfl ?_;refine Ob r.ad ?_;intro p28 hp28;refine Oh (dj:=25) rfl rfl ?_;refine Oe hp28 (Rd.ext hS.keeps r.rd) rfl ?_;refine Oh (dj:=25) rfl rfl ?_;refine O9 (Rd.ext hS.keeps r.log) ?_;refine Oa [6,32] ?_;refine Oj ?_ ?_
   ·intro c32;refine Oa [6] ?_;refine b3 ?_;rw[Uq hD c15,if_pos ⟨g25,by omega⟩]
   ·intro c32;refine Oo [6] ?_;refine b3 ?_;rw[Uq hD c15,if_neg (fun x=>c32 aB)]
  ·intro g25;have g25:=of_decide_eq_false g25;refine Oa [6,32] ?_;refine OU ?_;refine Oo [6] ?_;refine b3 ?_;rw[Uq hD c15,if_neg (fun x=>g25 x.1)]
 ·intro c15;refine Oo [0,6] ?_;refine Oc ?_;refine Ox (dj:=25) rfl rfl true false rfl ?_ ?_
  ·intro g25;have g25:=of_decide_eq_true g25;refine Oc ?_;refine Om r.ad ?_;refine Oh (dj:=25) rfl rfl ?_;refine Ob r.ad ?_;intro p28 hp28;refine Oh (dj:=25) rfl rfl ?_;refine Oe hp28 (Rd.ext hS.keeps r.rd) rfl ?_;refine Oh (dj:=25) rfl rfl ?_;refine O9 (Rd.ext hS.keeps r.log) ?_;refine Oa [6,32] ?_;refine Oj ?_ ?_
   ·intro c32;refine Oa [6] ?_;refine bp ?_;exact absurd g25 c15
   ·intro c32;refine Oo [6] ?_;refine bp ?_;exact absurd g25 c15
  ·intro g25;have g25:=of_decide_eq_false g25;refine Oa [6,32] ?_;refine OU ?_;refine Oo [6] ?_;refine b3 ?_;rw[asked_no c15]
theorem do14_c {h0 h:AHeap} {o vl vw:AV} {lines full:List Str} {G:List Obj} (ok:RbOk o vl vw lines full) (hS:St h0 h (⟨o,0,[.bool true,vl],true⟩::⟨vw,1,wcs full,true⟩::G)) (hD:Done lines) {line:Str} (hl:line.length≤1000000):ACalls Go.Proofs.Tryz.prog 22 [o,.str (wd line)] h (fun q h'=>q = .int .i64 (Kf lines line)∧RB h0 h' o (doL lines line) G):=by
 refine OS 24 [.tmp 4] Go.Proofs.Tryz.func22 rfl aD rfl rfl (fO rfl) ?_;have hln:=hD.wf.2.1;show KA _ 24 _ _ [(0,o),(1,.str (wd line))] _;refine cA ?_;refine Oi rfl (would14_c (St.rrb hS ok) hD hl) ?_;rintro _ hx ⟨rfl,hK⟩;replace hS:St _ _ _:=St.trans hS (St.ofK hK)
 try simp only[fQ] at hS
 refine Oa [0,1,5] ?_;refine Oa [0,1,5,10] ?_;refine Oj ?_ ?_
 ·intro c10;refine Oc ?_;refine cC ?_;intro v12 h' hS;refine Ok ?_;refine dO ?_;intro p15 hp15;refine Oe hp15 (hS.rd 1 rfl) rfl ?_;refine Qa hS (fun _=>rfl) (i:=0) rfl (a:=0) rfl (ok.part _ (hS.rd 2 rfl)) (b:=lines.length) aQ bL aB ?_;intro v17 h' hS;simp only[fI,fQ] at hS;refine Ok ?_;refine cC ?_;intro v19 h' hS;refine K5 hS (fun _=>rfl) (i:=0) rfl aA ?_;intro r20 h' hr20 hS;refine dO ?_;intro p22 hp22;refine O7 hS rfl (i:=1) rfl hp22 aG aS ?_;intro h' hS;simp only[fI,fU,fH] at hS;refine Oq [5] ?_;refine bp ?_;refine⟨rfl,?_⟩;rw[doL,if_pos c10];exact⟨r20,r20,lines ++ [line],⟨ok.ad,fun _ h=>h⟩,St.drop (A:=[_]) (St.perm ((List.perm_middle (l₁:=[_,_])).trans (List.Perm.cons _ (List.Perm.swap _ _ _))) hS)⟩
 ·intro c10;refine Oo [5] ?_;refine bp ?_;refine⟨rfl,?_⟩;rw[doL,if_neg c10];exact⟨vl,vw,full,ok,hS⟩
theorem undo14_c {h0 h:AHeap} {o vl vw:AV} {lines full:List Str} {G:List Obj} (ok:RbOk o vl vw lines full) (hS:St h0 h (⟨o,0,[.bool true,vl],true⟩::⟨vw,1,wcs full,true⟩::G)) (hll:lines.length≤1000000):ACalls Go.Proofs.Tryz.prog 19 [o] h (fun q h'=>q = .int .i64 (if lines = [] then 4 else 0)∧RB h0 h' o lines.dropLast G):=by
  refine OS 25 [.tmp 2] Go.Proofs.Tryz.func19 rfl aD rfl rfl (fO rfl) ?_;show KA _ 25 _ _ [(0,o)] _;refine dS ?_;refine Oi rfl (Jb (St.rrb hS ok)) ?_;rintro _ _ ⟨rfl,rfl⟩;refine dn ?_;refine Oc ?_;refine dO ?_;intro p7 hp7;refine Oe hp7 (hS.rd 0 rfl) rfl ?_;refine O9 (ok.part _ (hS.rd 1 rfl)) ?_;refine Oa [0,10] ?_;refine Oj ?_ ?_
  · intro c10;refine bl ?_;obtain rfl:lines = []:=fR aB;exact⟨rfl,vl,vw,full,ok,hS⟩
  · intro c10;refine Oo [0] ?_;refine bv ?_;refine Oc ?_;refine dO ?_;intro p14 hp14;refine Oe hp14 (hS.rd 0 rfl) rfl ?_;refine Ok ?_;refine dO ?_;intro p18 hp18;refine Oe hp18 (hS.rd 0 rfl) rfl ?_;refine O9 (ok.part _ (hS.rd 1 rfl)) ?_;refine Zy aC aC ?_;refine KOps.sliceHi (ok.part _ (hS.rd 1 rfl)) (m:=lines.length) aQ aB aB ?_;intro v22 hv22;have e22:((lines.length:Int) - 1).toNat=lines.length - 1:=by omega
    rw[e22] at hv22;refine dO ?_;intro p24 hp24;refine O7 hS rfl (i:=0) rfl hp24 hv22.one aS ?_;intro h' hS;simp only[fI,fU,fH] at hS;refine Oq [] ?_;refine bg ?_;refine Og ?_;refine⟨by rw[if_neg (fun e=>c10 (by rw[e]; rfl))],v22,vw,full,⟨ok.ad,fun hx hw=>part_last hv22 (ok.part hx hw)⟩,hS⟩
theorem lines14_c {h:AHeap} {o vl:AV} {lines:List Str} (r:RRb h o vl lines) (hll:lines.length≤1000000):ACalls Go.Proofs.Tryz.prog 25 [o] h (fun q h'=>St h h' [⟨q,1,wcs lines,true⟩]):=by
 refine OS 11 [.tmp 2] Go.Proofs.Tryz.func25 rfl aD rfl rfl (fO rfl) ?_;have hS:=St.refl h;show KA _ 11 _ _ [(0,o)] _;refine dS ?_;refine Oi rfl (Jb (r.ext hS.keeps)) ?_;rintro _ _ ⟨rfl,rfl⟩;refine dn ?_;refine Ov ?_;refine cC ?_;intro v5 h' hS;refine Ok ?_;refine cM ?_;intro p8 hp8;refine Oe hp8 (Rd.ext hS.keeps r.rd) rfl ?_;refine Qa hS (fun _=>rfl) (i:=0) rfl (a:=0) rfl (Rd.ext hS.keeps r.log) (b:=lines.length) aQ bL aB ?_;intro v10 h' hS;simp only[fI,fQ] at hS;refine bl ?_;exact hS
theorem summed14_c {h:AHeap} {l:Str} (hl:l.length≤1000000):ACalls Go.Proofs.Tryz.prog 75 [.str (wd l)] h (fun q h'=>q = .int .i64 (Go.Proofs.Tryz.sumTo l)∧h=h'):=by
 refine OS 20 [.tmp 2] Go.Proofs.Tryz.func75 rfl aD rfl rfl (fO rfl) ?_;show KA _ 20 _ _ [(0,.str (wd l))] _;refine Oa [0] ?_;refine bg ?_;refine dQ ?_;refine Kc (X:=Nat) (fun i=>[(0,.str (wd l)),(3,.int .i64 (Go.Proofs.Tryz.sumTo (l.take i))),(4,.int .i64 (i:Int))]) (fun i h'=>i≤l.length∧h=h') (fun i=>l.length - i) 0 ?_ ?_
 ·exact⟨fV _,rfl⟩
 rintro i h2 ⟨hi,rfl⟩;have hs:=Go.Proofs.Tryz.sumTo_in (l.take i);refine Oa [0,3,4,8] ?_;refine Oj ?_ ?_
 ·intro c8;have hlt:i<l.length:=by omega
  have hb:=(l.getD i 0).toNat_lt;refine Oo [0,3,4] ?_;refine dc ?_;refine KOps.mul aC aC ?_;refine Oc ?_;refine QQ (j:=i) rfl aA ?_;refine ZO aB (by have:=(l.getD i 0).toNat_lt; omega) ?_;refine KX aC aC ?_;have ht:(29*Go.Proofs.Tryz.sumTo (l.take i)+((l.getD i 0).toNat:Int)).tmod 9973=(29*Go.Proofs.Tryz.sumTo (l.take i)+((l.getD i 0).toNat:Int)) % 9973:=Int.tmod_eq_emod_of_nonneg aB;refine KOps.rem aD (by rw[ht]; omega) (by rw[ht]; omega) ?_;rw[ht,←sum_next hlt];refine O2 ?_;refine cE ?_;refine Ot [0,3,4] ?_;refine br ?_;exact lpN (i+1) ⟨by omega,rfl⟩ aB
 ·intro c8;refine bf ?_;refine Ot [3] ?_;refine bl ?_;have hie:i=l.length:=by omega
  subst hie;rw[gO];exact⟨rfl,rfl⟩
theorem file14_c {h:AHeap} {o vl:AV} {lines:List Str} (r:RRb h o vl lines) (hD:Done lines) (hV:Vs h):ACalls Go.Proofs.Tryz.prog 27 [o] h (fun q h'=>q = .str (wd (fileT lines))∧h=h'):=by
 refine OS 38 [.tmp 2] Go.Proofs.Tryz.func27 rfl aD rfl rfl (fO rfl) ?_;have hln:=hD.wf.2.1;have hsm:=hD.small;show KA _ 38 _ _ [(0,o)] _;refine Ov ?_;refine O2 ?_;refine Oq [0] ?_;refine bx ?_;refine Ok ?_;refine Oi rfl (Jb r) ?_;rintro _ _ ⟨rfl,rfl⟩;refine Oq [0,6] ?_;refine OU ?_;refine Oo [0] ?_;refine Ov ?_;refine O2 ?_;refine cO ?_;refine bx ?_;refine O2 ?_;refine cO ?_;refine Oy ?_;refine Kc (X:=Nat) (fun i=>[(0,o),(3,.str (wd (bodyT lines i))),(4,.int .i64 (i:Int))]) (fun i h'=>i≤lines.length∧h=h') (fun i=>lines.length - i) 0 ?_ ?_
 ·exact⟨fV _,rfl⟩
 rintro i h2 ⟨hi,rfl⟩;refine bx ?_;refine Ok ?_;refine Ok ?_;refine cM ?_;intro p10 hp10;refine Oe hp10 r.rd rfl ?_;refine O9 r.log ?_;refine Q8 ?_;refine Oq [0,3,4,13] ?_;refine Oj ?_ ?_
 ·intro c13;have hlt:i<lines.length:=by omega
  have hbl:=UH hD i aB;have hil:=Lib.itoa_length_le ((i:Int)+1) aB aB;have hxl:(lines.getD i []).length≤40:=hsm _ (getD_mem hlt);obtain⟨x,hx⟩:∃ x,lines.getD i []=x:=⟨_,rfl⟩;rw[hx] at hxl;refine Oo [0,3,4] ?_;refine b4 ?_;refine OW [3] mixed rfl aF ?_;refine Ok ?_;refine Ok ?_;refine KX aC aC ?_;refine Ke aa (itoa_c hV.pw aB aB) ?_;rintro _ _ ⟨rfl,rfl⟩;refine KOps.wAdd aA ?_;refine Ok ?_;refine cM ?_;intro p23 hp23;refine Oe hp23 r.rd rfl ?_;refine Ok ?_;refine On r.log (j:=i) rfl aA ?_;intro p26 hp26;refine OV hp26 r.log aA ?_;rw[hx];refine KOps.wAdd aA ?_;refine KOps.wAdd aA ?_;refine KOps.wAdd aA ?_;refine O2 ?_;refine cE ?_;refine Ot [0,3,4] ?_;refine Kk rfl ?_;refine Ok ?_;refine dE ?_;subst hx;exact lpN (i+1) ⟨by omega,rfl⟩ aB
 ·intro c13;have hie:i=lines.length:=by omega
  subst hie;have hbl:=UH hD lines.length (fL _);have hs2:=Go.Proofs.Tryz.sumTo_in (bodyT lines lines.length);have hil:=Lib.itoa_length_le (Go.Proofs.Tryz.sumTo (bodyT lines lines.length)) aB aB;refine bf ?_;refine Ot [3] ?_;refine Ov ?_;refine Ok ?_;refine KOps.wAdd aA ?_;refine Ok ?_;refine Oi rfl (summed14_c aB) ?_;rintro _ _ ⟨rfl,rfl⟩;refine Oi rfl (itoa_c hV.pw aB aB) ?_;rintro _ _ ⟨rfl,rfl⟩;refine KOps.wAdd aA ?_;refine KOps.wAdd aA ?_;refine O2 ?_;refine Oq [2] ?_;refine KL ?_;refine fnQ.ret1 ?_;exact⟨rfl,rfl⟩
end Go.Am
namespace Go.Am
def BR (h0 h:AHeap) (b o:AV) (L:List Str):Prop:=∃ vl A wl vw full,BOk2 b A L∧RbOk o wl vw L full∧St h0 h (Zk b vl A L ++ [⟨o,0,[.bool true,wl],true⟩,⟨vw,1,wcs full,true⟩])
theorem BR.new {h0 h1 h2:AHeap} {b o:AV} (hB:Bk h0 h1 b [] []) (hO:RB h1 h2 o [] []):BR h0 h2 b o []:=by
 obtain⟨vl,A,hb,hS⟩:=hB;obtain⟨wl,vw,full,ok,hS2⟩:=hO;refine⟨vl,A,wl,vw,full,hb,ok,?_⟩;rw[List.append_nil] at hS;exact St.perm (fB (l₁:=[_,_])) (St.trans hS hS2)
section
variable {P:Program} {n:Nat} {ops:Array Oper} {ex:List Nat} {Q:KF→AHeap→Prop} {k:Nat} {os:List Oper} {K:KF} {h:AHeap} {d:Nat} {ty:TypeId} {pos:String} {after:Array Edge}
theorem KOps.wEqlV {t t':TypeId} {x y:Operand} {a b:Str} [hx:EvK h.globs n K x (.str (wd a))] [hy:EvK h.globs n K y (.str (wd b))] (he:a=b) (hk:KOps P n ops ex Q (k+1) os ((d,.bool true)::K) h):KOps P n ops ex Q k (⟨some d,.binOp .eql t x y t',ty,pos,after,none⟩::os) K h:=by
 refine ZL ?_;rw[decide_eq_true he]; exact hk
end
theorem wcs_at {l:List Str} {i:Nat} (h:i<l.length):(wcs l)[i]? = some (.str (wd (l.getD i []))):=by
 unfold wcs;rw[fX,fE,fA h]; rfl
set_option synthInstance.maxSize 2000 in
set_option synthInstance.maxHeartbeats 200000 in
theorem masterLines_c {h:AHeap} {v:AV} {ls:List Str} (hv:WRow h v ls) (hV:Vs h):ACalls Go.Proofs.Tryz.prog 3 [v] h (fun q h'=>q = .bool true∧Keeps h h'):=by
 refine OS 77 [.tmp 2] Go.Proofs.Tryz.func3 rfl aD rfl rfl (fO rfl) ?_;show KA _ 77 _ _ [(0,v)] _;refine Ov ?_;refine O2 ?_;refine Oq [0] ?_;refine bx ?_;refine Ok ?_;refine O9 hv ?_;refine Zx ?_;refine Oq [0,10] ?_;refine Oj ?_ ?_
 ·intro c10;refine Ov ?_;refine Oi rfl (Wz hV) ?_;rintro _ hw ⟨rfl,hK⟩;refine O2 ?_;refine Oq [2] ?_;refine KL ?_;refine K3 ?_;refine fnQ.ret1 ?_;exact⟨rfl,hK⟩
 ·intro c10;refine Oo [0] ?_;refine Ov ?_;refine Oi rfl (new_c) ?_;rintro b h12 hB;refine Oi rfl (new14_c) ?_;rintro o h13 hO;have hB:=BR.new hB hO;refine O2 ?_;refine O2 ?_;refine Oq [0,3,4] ?_;refine bx ?_;refine O2 ?_;refine cO ?_;refine Oy ?_;refine Kc (X:=Nat) (fun i=>[(0,v),(3,b),(4,o),(5,.int .i64 (i:Int))]) (fun i h'=>i≤ls.length∧∃ L,BR h h' b o L) (fun i=>ls.length - i) 0 ?_ ?_
  ·exact⟨fV _,[],hB⟩
  rintro i h2 ⟨hi,L,hB⟩;obtain⟨vl,A,wl,vw,full,hb,ok,hSB⟩:=hB;have hS:=St.refl h2;refine bx ?_;refine Ok ?_;refine Ok ?_;refine O9 (Rd.ext (hSB.keeps.trans hS.keeps) hv) ?_;refine Q8 ?_;refine Oq [0,3,4,5,17] ?_;refine Oj ?_ ?_
  ·intro c17;have hlt:i<ls.length:=by omega
   obtain⟨x,hx⟩:∃ x,ls.getD i []=x:=⟨_,rfl⟩;have hLn:=hb.done.wf.2.1;have hLd:=hb.done;refine Oo [0,3,4,5] ?_;refine b4 ?_;refine bx ?_;refine dJ ?_;intro p22 hp22;refine OV hp22 (Rd.ext (hSB.keeps.trans hS.keeps) hv) aA ?_;rw[hx];refine Zo ?_;refine Zx ?_;refine Oq [0,3,4,5,25] ?_;refine Oj ?_ ?_
   ·intro c25;refine Ov ?_;refine Oi rfl (Wz (hV.ext (hSB.keeps.trans hS.keeps))) ?_;rintro _ hw ⟨rfl,hK⟩;refine O2 ?_;refine Oq [2] ?_;refine KL ?_;refine K3 ?_;refine Qv ?_;refine K3 ?_;refine lpQ.ret ?_;refine Qv ?_;refine K3 ?_;refine fnQ.ret1 ?_;exact⟨rfl,(hSB.keeps.trans hS.keeps).trans hK⟩
   ·intro c25;have hxl:x.length≤1000000:=by omega
    refine Oo [0,3,4,5] ?_;refine bx ?_;refine dJ ?_;intro p29 hp29;refine OV hp29 (Rd.ext (hSB.keeps.trans hS.keeps) hv) aA ?_;rw[hx];refine ZL ?_;refine Oq [0,3,4,5,31] ?_;refine Oj ?_ ?_
    ·intro c31;refine bx ?_;refine Ok ?_;refine Oi rfl (undo_c hb (St.on hSB hS.keeps) hV (fun x hx=>Nat.le_trans (hb.done.small x hx) aB)) ?_;rintro _ h33 ⟨rfl,hB33⟩;obtain⟨vl,A,hb,hSB⟩:=hB33;clear hS;have hS:=St.refl h33;refine Ok ?_;refine Oi rfl (undo14_c ok (St.on (St.perm (fB (l₁:=Zk b vl A _)) hSB) hS.keeps) (by have:=hLn; omega)) ?_;rintro _ h35 ⟨rfl,hB35⟩;obtain⟨wl,vw,full,ok,hSO⟩:=hB35;clear hS;have hS:=St.refl h35;have hSB:=St.perm (fB (l₁:=[_,_])) hSO;refine Kw rfl ?_;refine Oq [0,3,4,5,36] ?_;refine OU ?_;refine Oo [0,3,4,5] ?_;refine dK ?_;refine Kk rfl ?_;refine Ok ?_;refine dE ?_;exact lpN (i+1) ⟨by omega,_,vl,A,wl,vw,full,hb,ok,hSB⟩ aB
    ·intro c31;refine Oo [0,3,4,5] ?_;refine Ou ?_;refine KA.drawB (c:=5) (r:=10) (t:=9) (a:=46) (d:=47) [] mixed rfl rfl rfl aF rfl rfl rfl aD aD aF ?_;have hvA:WRow _ v ls:=(Rd.ext (hSB.keeps.trans hS.keeps) hv);refine Ok ?_;refine dJ ?_;intro p40 hp40;refine OV hp40 (Rd.ext (hSB.keeps.trans hS.keeps) hv) aA ?_;refine Of ?_;rw[hx];refine Oi rfl (would_c hb (St.on hSB hS.keeps) (hV.ext (hSB.keeps.trans hS.keeps)) hxl) ?_;rintro _ h42 ⟨rfl,hS42⟩;clear hS hSB;have hS:=St.refl h42;have hSB:=hS42;refine Ok ?_;refine dJ ?_;intro p46 hp46;refine OV hp46 (Rd.ext (hSB.keeps.trans hS.keeps) hv) aA ?_;rw[hx];refine Oi rfl (XK hb (St.on hSB hS.keeps) (hV.ext (hSB.keeps.trans hS.keeps)) hxl) ?_;rintro _ h48 ⟨rfl,hB48⟩;obtain⟨vl,A,hb,hSB⟩:=hB48;clear hS;have hS:=St.refl h48;refine O2 ?_;refine O2 ?_;refine KOps.doneB rfl rfl hp46 hvA (by rw[wcs_at hlt,hx]) ?_;refine Od ?_;refine Ot [0,3,4,5,6,7] ?_;refine Ov ?_;refine Ok ?_;refine Ok ?_;refine Kw rfl ?_;refine dL ?_;refine Ok ?_;refine Oh (dj:=52) rfl rfl ?_;refine Ok ?_;refine Oh (dj:=52) rfl rfl ?_;refine On (Rd.ext (hSB.keeps.trans hS.keeps) hv) (j:=i) rfl aA ?_;intro p57 hp57;refine Oh (dj:=52) rfl rfl ?_;refine OV hp57 (Rd.ext (hSB.keeps.trans hS.keeps) hv) aA ?_;rw[hx];refine Oh (dj:=52) rfl rfl ?_;refine Oi rfl (do14_c ok (St.on (St.perm (fB (l₁:=Zk b vl A _)) hSB) hS.keeps) hLd hxl) ?_;rintro _ h59 ⟨rfl,hB59⟩;obtain⟨wl,vw,full,ok,hSO⟩:=hB59;clear hS;have hS:=St.refl h59;have hSB:=St.perm (fB (l₁:=[_,_])) hSO;refine Oh (dj:=52) rfl rfl ?_;refine Kw rfl ?_;refine O6 ?_;refine Oq [0,3,4,5,53,54,55,56,57,58,59,60,61] ?_;refine OU ?_;refine bt ?_;refine Ot [0,3,4,5,53,54,55,56,57,58,59,60] ?_;refine Kk rfl ?_;refine Ok ?_;refine dE ?_;exact lpN (i+1) ⟨by omega,_,vl,A,wl,vw,full,hb,ok,hSB⟩ aB
  ·intro c17;have r:=St.rbk hSB hb;have r2:=St.rrb (St.perm (fB (l₁:=Zk b vl A _)) hSB) ok;refine bf ?_;refine Ot [3,4] ?_;refine Ov ?_;refine Ok ?_;refine Oi rfl (linesB_c (r.ext hS.keeps)) ?_;rintro v63 h63 hS63;replace hS:St _ _ (_::_):=St.trans hS hS63;refine Ok ?_;refine Oi rfl (lines14_c (r2.ext hS.keeps) (by have:=r.done.wf.2.1; omega)) ?_;rintro v65 h65 hS65;replace hS:St _ _ (_::_):=St.trans hS hS65;refine Oi rfl (VT (hS.rd 1 rfl) (hS.rd 0 rfl) (by have:=r.done.wf.2.1; omega)) ?_;rintro _ _ ⟨rfl,rfl⟩;rw[decide_eq_true (show L=L from rfl)];refine Ok ?_;refine Oh (dj:=67) rfl rfl ?_;refine Ok ?_;refine Oh (dj:=67) rfl rfl ?_;refine Oi rfl (fileB_c (r.ext hS.keeps) (hV.ext (hSB.keeps.trans hS.keeps))) ?_;rintro _ _ ⟨rfl,rfl⟩;refine Oh (dj:=67) rfl rfl ?_;refine Ok ?_;refine Oh (dj:=67) rfl rfl ?_;refine Oi rfl (file14_c (r2.ext hS.keeps) r.done (hV.ext (hSB.keeps.trans hS.keeps))) ?_;rintro _ _ ⟨rfl,rfl⟩;refine Oh (dj:=67) rfl rfl ?_;refine KOps.wEqlV rfl ?_;refine KV ?_;refine Ok ?_;refine Oh (dj:=74) rfl rfl ?_;refine Oi rfl (Wz (hV.ext (hSB.keeps.trans hS.keeps))) ?_;rintro _ hw ⟨rfl,hK⟩;refine KV ?_;refine O2 ?_;refine Oq [2] ?_;refine KL ?_;refine fnQ.ret1 ?_;exact⟨rfl,(hSB.keeps.trans hS.keeps).trans hK⟩
end Go.Am
