/-
  The abstract machine: a call with given arguments, of which some are rows in memory, run by the kernel, holds beside any heap that has these rows.
  Conditions: none.
-/
import Derived.Test.YtdfhmdhjeiipfaaGreatDoorAmU
open Bool renaming and_eq_true → dO, false_eq_true → dQ, not_eq_true' → fA, or_eq_true → fC
open Decidable renaming not_not → dR
open Go.Instr renaming typeAssert → dW
open List renaming getElem?_eq_getElem → dY, all_eq_true → dP, mem_of_getElem? → dS, getElem?_eq_some_iff → dT, getElem?_map → dZ, all_cons → fO, getElem?_drop → fU, zip_cons_cons → fY, range → fB
open Nat renaming add_sub_cancel_left → dV, le_refl → fE, le_of_ble_eq_true → fI
open Option renaming map_eq_some_iff → dU
open Prod.mk renaming injEq → dX
set_option maxRecDepth 99999
set_option maxHeartbeats 4000000
namespace Go.Am
def AV.shm (m d : Nat) : Nat → AV → AV
  | _,.ptr b o=>if b<m then .bot else .ptr (d+(b - m)) o
  | _,.slc b o n s f=>if b<m then .bot else .slc (d+(b - m)) o n s f
  | _,.nilp=>.nilp
  | _,.nils=>.nils
  | _,.nilm=>.nilm
  | _,.nilf=>.nilf
  | _,.bool b=>.bool b
  | _,.int k n=>.int k n
  | _,.str s=>.str s
  | n+1,.fn f l=>.fn f (l.map (AV.shm m d n))
  | n+1,.agg l=>.agg (l.map (AV.shm m d n))
  | n+1,.tup l=>.tup (l.map (AV.shm m d n))
  | _,_=>.bot
theorem AV.shm_rel {φ φ':Emb} {m d:Nat} (hφ:∀ b p,m≤b→φ b=some p→φ' (d+(b - m))=some p):∀ (n:Nat) (x:AV) (v:Value),VRel φ x v→VRel φ' (AV.shm m d n x) v:=by
 have hl:∀ (n:Nat),(∀ (x:AV) (v:Value),VRel φ x v→VRel φ' (AV.shm m d n x) v)→∀ (l:List AV) (cs:List Value),(∀ (j:Nat) (x:AV) (y:Value),l[j]? = some x→cs[j]? = some y→VRel φ x y)→∀ (j:Nat) (x:AV) (y:Value),(l.map (AV.shm m d n))[j]? = some x→cs[j]? = some y→VRel φ' x y:=by
  intro n ih l cs h j x y hx hy;rw[dZ,dU] at hx;obtain⟨q,hq,rfl⟩:=hx;exact ih q y (h j q y hq hy)
 have hp:∀ (b o k i z:Nat),φ b=some (k,i,z)→VRel φ' (if b<m then .bot else .ptr (d+(b - m)) o) (.pointer (some ⟨k,i+o,none⟩)):=by
  intro b o k i z h;split;exact .bot _;exact .ptr _ _ _ _ _ (hφ _ _ aA h)
 have hs:∀ (b o n s:Nat) (full:Bool) (a:Addr) (c:Nat),n≤c→c≤maxLen→(full=true→c=n)→(c=0∨∃ k i z,φ b=some (k,i,z)∧a=⟨k,i+o,none⟩∧i+o+c*s≤z)→VRel φ' (if b<m then .bot else .slc (d+(b - m)) o n s full) (.slice (some a) n c):=by
  intro b o n s full a c hn hc hf hadr;split;exact .bot _;refine .slc _ _ _ _ _ _ _ hn hc hf ?_;rcases hadr with h|⟨k,i,z,h1,h2,h3⟩
  exact .inl h;exact .inr ⟨k,i,z,hφ _ _ aA h1,h2,h3⟩
 intro n
 induction n with
 | zero=>
  intro x v h
  cases h <;> simp only [AV.shm] <;> first
    | exact .bot _|exact .bool _|exact .int _ _|exact .str _|exact .nilp|exact .nils|exact .nilm|exact .nilf
    | exact hp _ _ _ _ _ aL
    | skip
  rename_i a c hn hc hf hadr;exact hs _ _ _ _ _ _ _ hn hc hf hadr
 | succ n ih=>
  intro x v h
  cases h <;> simp only [AV.shm] <;> first
    | exact .bot _|exact .bool _|exact .int _ _|exact .str _|exact .nilp|exact .nils|exact .nilm|exact .nilf
    | exact hp _ _ _ _ _ aL
    | skip
  rename_i a c hn hc hf hadr;exact hs _ _ _ _ _ _ _ hn hc hf hadr;rename_i hl' hh;exact .fn _ _ _ (by simpa using hl') (hl n ih _ _ hh);rename_i hl' hh;exact .agg _ _ (by simpa using hl') (hl n ih _ _ hh);rename_i hl' hh;exact .tup _ _ (by simpa using hl') (hl n ih _ _ hh)
def WM (h1 : AHeap) (m d : Nat) (i : Nat) : Blk → Blk
  | .cells _ _ cs=>if h1.valid i then .cells none 0 (cs.map (AV.shm m d 4)) else .cells none 0 []
  | .obj _ _=>.cells none 0 []
def AHeap.frozm (h:AHeap) (m:Nat) (h1:AHeap):AHeap:=⟨h.blks ++ (h1.blks.mapIdx (WM h1 m h.next)).drop m,h.fams,h.globs⟩
theorem X9 (h:AHeap) (m:Nat) (h1:AHeap):(h.frozm m h1).next=h.next+(h1.next - m):=by simp[AHeap.frozm,AHeap.next]
theorem Xn (h:AHeap) (m:Nat) (h1:AHeap) {b:Nat} (hb:b<h.next):(h.frozm m h1).get b=h.get b:=List.getElem?_append_left hb
theorem Th (h:AHeap) (m:Nat) (h1:AHeap) (b:Nat):(h.frozm m h1).get (h.next+b)=(h1.get (m+b)).map (WM h1 m h.next (m+b)):=by
 simp only[AHeap.frozm,AHeap.get,AHeap.next];rw[List.getElem?_append_right aA,dV,fU,List.getElem?_mapIdx]
theorem UR (h:AHeap) (m:Nat) (h1:AHeap):Keeps h (h.frozm m h1):=⟨by rw[X9]; omega,fE _,rfl,fun b hb=>Xn h m h1 hb,fun _ _=>rfl⟩
theorem Sl {h:AHeap} {m:Nat} {h1:AHeap} {b:Nat} {B:Blk} (hb:h.next≤b) (hB:(h.frozm m h1).get b=some B):∃ cs,B = .cells none 0 cs:=by
 obtain⟨q,rfl⟩:∃ q,b=h.next+q:=⟨b - h.next,by omega⟩;rw[Th,dU] at hB;obtain⟨C,_,rfl⟩:=hB;unfold WM;split;split;exact⟨_,rfl⟩;exact⟨_,rfl⟩;exact⟨_,rfl⟩
theorem Ev.over {P : Program} {f : FuncId} {args args' : List AV} {r : AV} {hA h1 : AHeap} (he : Ev P f args' hA r h1) (hro : ∀ b B, hA.get b = some B → ∃ p cs, B = .cells none p cs) (h : AHeap)
    (hrel:∀ φ w cs,HRel φ h w→VRels φ args cs→∃ φA,(∀ b,hA.next≤b→φA b=none)∧HRel φA hA w∧VRels φA args' cs):Ev P f args h (AV.shm hA.next h.next 4 r) (h.frozm hA.next h1):=by
 obtain⟨hrun,hgrow,hev⟩:=he;have hm:hA.next≤h1.next:=hgrow.next;generalize hmm:hA.next=m at *;refine⟨hrun,⟨(UR h m h1).next,fE _,rfl,fun b hb=>by rw[Xn h m h1 hb]⟩,?_⟩;intro φ w cs hfr rr ha;obtain⟨φA,hfA,hrA,hvA⟩:=hrel φ w cs rr ha;refine(hev φA w cs (fun b h1 _=>hfA b aA) hrA hvA).mono ?_;rintro e w' ⟨v,φ',rfl,t,r',hv⟩;have hk:∀ k,k<w.heap.size→w'.heap[k]? = w.heap[k]?:=fun k hk=>t.frame k hk (by
  rintro⟨b,i,z,hb,⟨F,p,cs,hm⟩|⟨F,x,hm⟩⟩;obtain⟨_,_,h2⟩:=hro _ _ hm; cases h2;obtain⟨_,_,h2⟩:=hro _ _ hm; cases h2)
 have himg:∀ b k i z,m≤b→φ' b=some (k,i,z)→w.heap.size≤k:=by
  intro b k i z hmb hb;rcases t.img b k i z (hfA b hmb) hb with h2|⟨_,_,_,_,_,_,h2,h3⟩
  exact h2;obtain⟨_,_,h4⟩:=hro _ _ h3; cases h4
 have hdom:∀ b p,m≤b→φ' b=some p→b<h1.next:=fun b p hmb hb=>(t.new b p (hfA b hmb) hb).2
 let ψ:Emb:=fun b=>if h.next≤b∧b<h.next+(h1.next - m) then φ' (m+(b - h.next)) else φ b
 have hψ:∀ b p,ψ b=some p→(h.next≤b∧φ' (m+(b - h.next))=some p)∨(¬ (h.next≤b∧b<h.next+(h1.next - m))∧φ b=some p):=by
  intro b p hb;by_cases hc:h.next≤b∧b<h.next+(h1.next - m);simp only[ψ,if_pos hc] at hb; exact .inl ⟨hc.1,hb⟩;simp only[ψ,if_neg hc] at hb; exact .inr ⟨hc,hb⟩
 have hnew:∀ b p,m≤b→φ' b=some p→ψ (h.next+(b - m))=some p:=by
  intro b p hmb hb;have:=hdom b p hmb hb;simp only[ψ];rw[if_pos ⟨by omega,by omega⟩,dV,show m+(b - m)=b by omega]; exact hb
 have hle : φ.le ψ:=by
  intro b p hb;have:¬ (h.next≤b∧b<h.next+(h1.next - m)):=by
   rintro⟨c1,c2⟩;have:=hfr b c1 (by rw[X9]; exact c2);rw[hb] at this; cases this
  simp only[ψ,if_neg this]; exact hb
 have hold:∀ b B,¬ (h.next≤b∧b<h.next+(h1.next - m))→(h.frozm m h1).get b=some B→b<h.next∧h.get b=some B:=by
  intro b B hc hB;have h2:=AHeap.get_lt hB;rw[X9] at h2;have h3:b<h.next:=by omega
  rw[Xn h m h1 h3] at hB;exact⟨h3,hB⟩
 have hfm:∀ b F p cs',(h.frozm m h1).get b=some (.cells (some F) p cs')→b<h.next∧h.get b=some (.cells (some F) p cs'):=by
  intro b F p cs' hB;by_cases hb:b<h.next;rw[Xn h m h1 hb] at hB; exact⟨hb,hB⟩;obtain⟨_,h2⟩:=Sl aA hB;cases h2
 have hom:∀ b F x,(h.frozm m h1).get b=some (.obj F x)→b<h.next∧h.get b=some (.obj F x):=by
  intro b F x hB;by_cases hb:b<h.next;rw[Xn h m h1 hb] at hB; exact⟨hb,hB⟩;obtain⟨_,h2⟩:=Sl aA hB;cases h2
 have hψold:∀ b p,b<h.next→ψ b=some p→φ b=some p:=by
  intro b p hb h2;rcases hψ b p h2 with ⟨h3,_⟩|⟨_,h3⟩
  omega;exact h3
 refine⟨v,ψ,rfl,⟨hle,?_,?_,?_,fun k hk' _=>hk k hk',t.os,t.tape,t.output,t.size⟩,?_,AV.shm_rel hnew 4 r v hv⟩;intro b h2 h3;rw[X9] at h3;obtain⟨p,hp⟩:=t.dom (m+(b - h.next)) aA aA;refine⟨p,?_⟩;have:=hnew _ _ aA hp;rwa [show h.next+(m+(b - h.next) - m)=b by omega] at this;intro b p h2 h3;rw[X9];rcases hψ b p h3 with ⟨h4,h5⟩|⟨_,h4⟩
 have:=hdom _ _ aA h5; omega;rw[h2] at h4; cases h4;intro b k i z h2 h3;rcases hψ b _ h3 with ⟨h4,h5⟩|⟨_,h4⟩
 exact .inl (himg _ _ _ _ aA h5);rw[h2] at h4; cases h4;refine⟨?_,?_,?_,?_,?_,?_,?_,?_⟩;intro g hg;obtain⟨z,hz⟩:=rr.glob g hg;exact⟨z,hle _ _ hz⟩;intro b k i z hb;rcases hψ b _ hb with ⟨_,h5⟩|⟨_,h4⟩
 exact r'.lt _ _ _ _ h5;exact Nat.lt_of_lt_of_le (rr.lt b k i z h4) t.size
 ·intro b k i z B hb hB hvd;by_cases hlt:b<h.next;have hb':=hψold b _ hlt hb;rw[Xn h m h1 hlt] at hB;refine((rr.blk b k i z B hb' hB ?_).world (hk k (rr.lt b k i z hb'))).mono hle;unfold AHeap.valid at hvd⊢;rw[Xn h m h1 hlt] at hvd;exact hvd
  ·obtain⟨q,rfl⟩:∃ q,b=h.next+q:=⟨b - h.next,by omega⟩;rw[Th,dU] at hB;obtain⟨C,hC,rfl⟩:=hB;have hbq : φ' (m+q)=some (k,i,z):=by
    rcases hψ _ _ hb with ⟨_,h5⟩|⟨h4,_⟩
    rwa [dV] at h5;exact absurd ⟨by omega,by have:=AHeap.get_lt hC; omega⟩ h4
   cases C with
   | obj F x=>exact⟨by intro j x hx; simp at hx,fun h0=>absurd h0 aE⟩
   | cells F p cs'=>
    simp only[WM];split;rename_i hval;have hBR:=r'.blk (m+q) k i z _ hbq hC hval;refine⟨?_,fun h0=>absurd h0 aE⟩;intro j x hx;rw[dZ,dU] at hx;obtain⟨y,hy,rfl⟩:=hx;obtain⟨u,hu,hru⟩:=hBR.cell hy;exact⟨u,hu,AV.shm_rel hnew 4 y u hru⟩;exact⟨by intro j x hx; simp at hx,fun h0=>absurd h0 aE⟩
 intro b k i z F p cs' hb hB;obtain⟨hlt,hB'⟩:=hfm b F p cs' hB;have hb':=hψold b _ hlt hb;obtain⟨c,e,h2,h3⟩:=rr.arr b k i z F p cs' hb' hB';exact⟨c,e,h2.old (hk k (rr.lt b k i z hb')),h3⟩;intro b b' k i i' z z' F F' p p' c1 c2 hb hb' hB hB';obtain⟨hlt,hB⟩:=hfm b F p c1 hB;obtain⟨hlt',hB'⟩:=hfm b' F' p' c2 hB';exact rr.one b b' k i i' z z' F F' p p' c1 c2 (hψold b _ hlt hb) (hψold b' _ hlt' hb') hB hB';intro b b' k i i' z z' F p p' c1 c2 hb hb' hB hB';obtain⟨hlt,hB⟩:=hfm b F p c1 hB;have hb1:=hψold b _ hlt hb;have hk1:=rr.lt b k i z hb1;rcases hψ b' _ hb' with ⟨_,h5⟩|⟨h4,h5⟩
 have:=himg _ _ _ _ aA h5; omega;obtain⟨_,hB2⟩:=hold b' _ h4 hB';exact rr.sep b b' k i i' z z' F p p' c1 c2 hb1 h5 hB hB2;intro b b' k i i' z z' F x B hb hb' hB hB';obtain⟨hlt,hB⟩:=hom b F x hB;have hb1:=hψold b _ hlt hb;have hk1:=rr.lt b k i z hb1;rcases hψ b' _ hb' with ⟨_,h5⟩|⟨h4,h5⟩
 have:=himg _ _ _ _ aA h5; omega;obtain⟨_,hB2⟩:=hold b' _ h4 hB';exact rr.map b b' k i i' z z' F x B hb1 h5 hB hB2;intro b F p cs' hB;obtain⟨hlt,hB'⟩:=hfm b F p cs' hB;exact rr.ext b F p cs' hB'
end Go.Am
namespace Go.Am
structure ArgB where
  v:AV
  s:Nat
  xs:List AV
  ys:List AV
def AV.isP : Nat → AV → AV → Bool
  | _,.bool a,.bool b=>a == b
  | _,.int k a,.int k' b=>decide (k=k') && decide (a=b)
  | _,.str a,.str b=>decide (a=b)
  | _,.nils,.nils=>true
  | n+1,.tup l,.tup l'=>decide (l.length=l'.length) && (l.zip l').all fun p=>AV.isP n p.1 p.2
  | n+1,.agg l,.agg l'=>decide (l.length=l'.length) && (l.zip l').all fun p=>AV.isP n p.1 p.2
  | _,_,_=>false
theorem V6 {f:AV→AV→Bool} (hf:∀ x y,f x y=true→x=y):∀ l l':List AV,l.length=l'.length→((l.zip l').all fun p=>f p.1 p.2)=true→l=l':=by
 intro l
 induction l with
 | nil=>intro l' h _; cases l' with
  | nil=>rfl
  | cons _ _=>cases h
 | cons a l ih=>intro l' h h2; cases l' with
  | nil=>cases h
  | cons b l'=>
   rw[fY,fO,dO] at h2;have e:a=b:=hf _ _ h2.1;rw[e,ih l' (Nat.succ.inj h) h2.2]
theorem AV.isP_eq:∀ (n:Nat) (x y:AV),AV.isP n x y=true→x=y:=by
 intro n
 induction n with
 | zero=>
  intro x y h;unfold AV.isP at h;split at h;rw[beq_iff_eq] at h; rw[h];rw[dO,decide_eq_true_iff,decide_eq_true_iff] at h; rw[h.1,h.2];rw[decide_eq_true_iff] at h; rw[h];rfl;rename_i e; cases e;rename_i e; cases e;cases h
 | succ n ih=>
  intro x y h;unfold AV.isP at h;split at h;rw[beq_iff_eq] at h; rw[h];rw[dO,decide_eq_true_iff,decide_eq_true_iff] at h; rw[h.1,h.2];rw[decide_eq_true_iff] at h; rw[h];rfl;rename_i e;cases e;rw[dO,decide_eq_true_iff] at h;rw[V6 ih _ _ h.1 h.2];rename_i e;cases e;rw[dO,decide_eq_true_iff] at h;rw[V6 ih _ _ h.1 h.2];cases h
end Go.Am
namespace Go.Am
def AV.eqF : Nat → AV → AV → Bool
  | _,.bot,.bot=>true
  | _,.bool a,.bool b=>a == b
  | _,.int k a,.int k' b=>decide (k=k') && decide (a=b)
  | _,.str a,.str b=>decide (a=b)
  | _,.ptr b o,.ptr b' o'=>decide (b=b') && decide (o=o')
  | _,.nilp,.nilp=>true
  | _,.slc b o n s f,.slc b' o' n' s' f'=>decide (b=b') && (decide (o=o') && (decide (n=n') && (decide (s=s') && f == f')))
  | _,.nils,.nils=>true
  | _,.mp b,.mp b'=>decide (b=b')
  | _,.it b,.it b'=>decide (b=b')
  | _,.nilm,.nilm=>true
  | _,.nilf,.nilf=>true
  | n+1,.fn f l,.fn f' l'=>decide (f=f') && (decide (l.length=l'.length) && (l.zip l').all fun p=>AV.eqF n p.1 p.2)
  | n+1,.agg l,.agg l'=>decide (l.length=l'.length) && (l.zip l').all fun p=>AV.eqF n p.1 p.2
  | n+1,.tup l,.tup l'=>decide (l.length=l'.length) && (l.zip l').all fun p=>AV.eqF n p.1 p.2
  | _,_,_=>false
theorem AV.eqF_eq:∀ (n:Nat) (x y:AV),AV.eqF n x y=true→x=y:=by
 intro n
 induction n with
 | zero=>
  intro x y h
  cases x <;> cases y <;> simp only[AV.eqF,dQ,dO,decide_eq_true_eq,beq_iff_eq] at h <;> simp_all
 | succ n ih=>
  intro x y h
  cases x <;> cases y <;> simp only [AV.eqF, dQ, dO, decide_eq_true_eq, beq_iff_eq] at h <;> first
    | rfl
    | (rw[h]; done)
    | (rw[h.1,h.2]; done)
    | (rw[h.1,h.2.1,h.2.2.1,h.2.2.2.1,h.2.2.2.2]; done)
    | (rw[h.1,V6 ih _ _ h.2.1 h.2.2]; done)
    | (rw[V6 ih _ _ h.1 h.2]; done)
def Thing.eqF : Thing → Thing → Bool
  | .map es,.map es'=>decide (es.length=es'.length) && (es.zip es').all fun p=>AV.eqF 4 p.1.1 p.2.1 && AV.eqF 4 p.1.2 p.2.2
  | .walk s p,.walk s' p'=>decide (s=s') && decide (p=p')
  | .gone,.gone=>true
  | _,_=>false
theorem Thing.eqF_eq {x y:Thing} (h:Thing.eqF x y=true):x=y:=by
 cases x <;> cases y <;> simp only[Thing.eqF,dQ,dO,decide_eq_true_eq] at h
 ·rename_i es es';congr 1;revert es'
  induction es with
  | nil=>intro es' h; cases es' with
   | nil=>rfl
   | cons _ _=>cases h.1
  | cons a es ih=>intro es' h; cases es' with
   | nil=>cases h.1
   | cons b es'=>
    obtain⟨h1,h2⟩:=h;rw[fY,fO,dO,dO] at h2;have e1:a.1=b.1:=AV.eqF_eq 4 _ _ h2.1.1;have e2:a.2=b.2:=AV.eqF_eq 4 _ _ h2.1.2;rw[show a=b from Prod.ext e1 e2,ih es' ⟨Nat.succ.inj h1,h2.2⟩]
 rw[h.1,h.2];rfl
def Blk.eqF : Blk → Blk → Bool
  | .cells F p cs,.cells F' p' cs'=>decide (F=F') && (decide (p=p') && (decide (cs.length=cs'.length) && (cs.zip cs').all fun q=>AV.eqF 4 q.1 q.2))
  | .obj F x,.obj F' x'=>decide (F=F') && Thing.eqF x x'
  | _,_=>false
theorem Blk.eqF_eq {x y:Blk} (h:Blk.eqF x y=true):x=y:=by
 cases x <;> cases y <;> simp only[Blk.eqF,dQ,dO,decide_eq_true_eq] at h
 rw[h.1,h.2.1,V6 (AV.eqF_eq 4) _ _ h.2.2.1 h.2.2.2];rw[h.1,Thing.eqF_eq h.2]
noncomputable def Yp (h h':AHeap):Bool:=(fB h.next).all fun b=>(match Jr h b,Jr h' b with|some x,some y=>Blk.eqF x y|_,_=>false) && VE h b == VE h' b
theorem TI {h h':AHeap} (hx:Yp h h'=true):HExt h h':=by
 have key:∀ b,b<h.next→h'.get b=h.get b∧h'.valid b=h.valid b:=by
  intro b hb;have:=dP.1 hx b (List.mem_range.2 hb);rw[dO,beq_iff_eq,YR,YR,XZ,XZ] at this;obtain⟨h1,h2⟩:=this;split at h1;rename_i x y e1 e2;rw[e1,e2,Blk.eqF_eq h1];exact⟨rfl,h2.symm⟩;cases h1
 refine⟨?_,fun b hb=>(key b hb).1,fun b hb=>(key b hb).2⟩
 cases hn:h.next with
 | zero=>exact Nat.zero_le _
 | succ n=>
  have hlt:n<h.blks.length:=by have:h.next=h.blks.length:=rfl; omega
  have h1:=(key n aA).1;have h2:h.get n=some h.blks[n]:=dY hlt;rw[h2] at h1;exact AHeap.get_lt h1
def VJ (P:Program) (t:TypeId) (x:AV):Option AV:=if Jn P t=true then (match x with
  | .ifc d y=>if d=t then some (.tup [y,.bool true]) else (Qf P t).map fun z=>.tup [z,.bool false]
  | .nili=>(Qf P t).map fun z=>.tup [z,.bool false]
  | _=>none) else none
theorem VT {P:Program} {ρ:Operand→AV} {o:Oper} {h:AHeap} {v:AV} {x:Operand} {xt t:TypeId} (ho:o.op = .typeAssert x xt t true) (hs:VJ P t (ρ x)=some v):StepS P ρ o h v h:=by
 refine⟨HGrow.refl h,?_⟩;intro φ a w K Q _ r hops hk;have hx:=hops x aN;have hz:∀ z,Qf P t=some z→∃ c,(zeroValue t).run P w = .ok c w∧VRel φ z c:=by
  intro z hz;obtain⟨i,zv,hzi,hzv,hzr⟩:=Qo hz;exact⟨zv,by simp[zeroValue,typeInfo,hzi,hzv],hzr φ⟩
 have hfin:∀ c,(dW (a.eval x) xt t true).run P w = .ok c w→VRel φ v c→o.wp P a w K Q:=fun c hc hv=>
  wp_of_run (c:=c) (w':=w) (by simp[execOp,ho,hc]) (hk φ _ _ (Trans.refl φ h w) r hv)
 unfold VJ at hs;split at hs
 ·rename_i hcc;unfold Jn at hcc;split at hcc;cases hcc
  ·rename_i d hne hd;split at hs
   ·rename_i e y hρ;rw[hρ] at hx;generalize hex:a.eval x=cx at hx hfin
    cases hx with|ifc _ _ c hy=>
    split at hs
    ·rename_i het;cases hs;subst het;refine hfin _ ?_ (Xv hy true);simp only[dW,Sem.run_bind,run_underlying hd,Result.andThen_ok]
     cases d <;> first|(simp; done)|exact absurd rfl (hne _)
    ·rename_i het;obtain⟨z,hz1,rfl⟩:=dU.1 hs;obtain⟨c0,hc0,hv0⟩:=hz z hz1;refine hfin _ ?_ (Xv hv0 false);simp only[dW,Sem.run_bind,run_underlying hd,Result.andThen_ok]
     cases d <;> first|(simp[het,hc0]; done)|exact absurd rfl (hne _)
   ·rename_i hρ;rw[hρ] at hx;generalize hex:a.eval x=cx at hx hfin;cases hx;obtain⟨z,hz1,rfl⟩:=dU.1 hs;obtain⟨c0,hc0,hv0⟩:=hz z hz1;refine hfin _ ?_ (Xv hv0 false);simp only[dW,Sem.run_bind,run_underlying hd,Result.andThen_ok]
    cases d <;> first|(simp[hc0]; done)|exact absurd rfl (hne _)
   cases hs
  cases hcc
 cases hs
noncomputable def Ut (P:Program) (kill:Bool) (h:AHeap) (ρ:Operand→AV) (op:Op):Option (AV × AHeap):=
  match op with
  | .makeMap _ none=>some (.mp h.next,h.allocT (.map []))
  | .lookup t x ix ok=>match Jg P h t (ρ x) (ρ ix) ok with|some v=>some (v,h)|none=>none
  | .mapUpdate t x ix y=>match Ji P h t (ρ x) (ρ ix) (ρ y) with|some h'=>some (.tup [],h')|none=>none
  | .insert t x ix y=>match Ji P h t (ρ x) (ρ ix) (ρ y) with|some h'=>some (.tup [],h')|none=>none
  | .range t x=>match ρ x with | .str s=>if ZK P t=true then some (.it h.next,h.allocT (.walk s 0)) else none|_=>none
  | .next x true=>match ρ x with
    | .it b=>match Jr h b with
      | some (.obj F (.walk s pos))=>if pos<s.size then some (.tup [.bool true,.int .i64 pos,.int .i32 (Utf8.decode s pos).1],h.set b (.obj F (.walk s (pos+(Utf8.decode s pos).2)))) else some (.tup [.bool false],h)
      | _=>none
    | _=>none
  | .typeAssert x _ t true=>match VJ P t (ρ x) with|some v=>some (v,h)|none=>none
  | op=>Uq P kill h ρ op
theorem T0 {P:Program} {kill:Bool} {ρ:Operand→AV} {o:Oper} {h h':AHeap} {v:AV} (hs:Ut P kill h ρ o.op=some (v,h')):StepS P ρ o h v h':=by
 unfold Ut at hs;split at hs;rename_i ho; cases hs; exact J9 ho;rename_i ho;split at hs;rename_i hl; cases hs; exact Pg ho hl;cases hs;rename_i ho;split at hs;rename_i hl; cases hs; exact Yr ho hl;cases hs;rename_i ho;split at hs;rename_i hl; cases hs; exact US ho hl;cases hs;rename_i ho;split at hs;rename_i hx;split at hs;rename_i ht; cases hs; exact Re ho ht hx;cases hs;cases hs;rename_i ho;split at hs;rename_i hx;split at hs;rename_i hg;rw[XZ] at hg;split at hs;rename_i hlt; cases hs; exact Ts ho hx hg hlt;rename_i hlt; cases hs; exact Tq ho hx hg aA;cases hs;cases hs;rename_i ho;split at hs;rename_i hl; cases hs; exact VT ho hl;cases hs;rw[Ws] at hs; exact VW hs
def touchedX (h:AHeap) (ρ:Operand→AV) (op:Op):Nat:=match op with
  | .mapUpdate _ x _ _=>match ρ x with | .mp b=>b|_=>0
  | .insert _ x _ _=>match ρ x with | .mp b=>b|_=>0
  | .next x _=>match ρ x with | .it b=>b|_=>0
  | op=>RU h ρ op
noncomputable def Z2 (P:Program) (kill tx:Bool) (call:FuncId→List AV→AHeap→Option (AV × AHeap)) (h:AHeap) (ρ:Operand→AV) (o:Oper):Option (AV × AHeap):=
  match clsOf o.op with
  | .pure=>match apure P ρ o.op with
    | some v=>some (v,h)
    | none=>if tx=true then (match o.op with
      | .makeFunc (.func f) first cap=>some (.fnm f (first.toList.map ρ) (cap.toList.map ρ),h)
      | .call {callee:=.builtin .len,args,argTypes}=>match args.toList,argTypes.toList with
        | [x],[t]=>match Xc P t,ents h (ρ x) with|some _,some es=>some (.int .i64 es.length,h)|_,_=>none
        | _,_=>none
      | _=>none) else none
  | .read=>match areadB P h ρ o.op with
    | some v=>some (v,h)
    | none=>match o.op with
      | .lookup t x ix ok=>match Jg P h t (ρ x) (ρ ix) ok with|some v=>some (v,h)|none=>none
      | _=>none
  | .allo=>match aallo P ρ o.op with|some (mk,cs)=>Yt (h.alloc cs) h.next fun h'=>some (mk.val h.next,h')|none=>none
  | .chain=>match o.op with
    | .call {callee:=.value g,args,..}=>match ρ g with
      | .fn f caps=>call f (args.toList.map ρ ++ caps) h
      | .fnm f first caps=>call f (first ++ args.toList.map ρ ++ caps) h
      | _=>none
    | op=>match Ut P kill h ρ op with
      | some (v,h')=>Yt h' (touchedX h ρ op) fun h'=>some (v,h')
      | none=>none
theorem S1 {P : Program} {kill tx : Bool} {call : FuncId → List AV → AHeap → Option (AV × AHeap)} (hc : ∀ f args h r h', call f args h = some (r, h') → Ev P f args h r h') {h h' : AHeap} {ρ : Operand → AV} {o : Oper} {v : AV}
    (hs:Z2 P kill tx call h ρ o=some (v,h')):SemStep P ρ o h v h'∨(tx=true∧StepS P ρ o h v h'):=by
 unfold Z2 at hs;split at hs;rename_i hcl;split at hs;rename_i hp; cases hs; left; unfold SemStep; rw[hcl]; exact⟨hp,rfl⟩;split at hs;rename_i htx;right;refine⟨htx,?_⟩;split at hs;rename_i ho; cases hs; exact JH ho;rename_i args tys ho;split at hs;rename_i x t hx ht;split at hs;rename_i p es hm he;cases hs;have hax:args = #[x]:=by apply Array.ext'; simpa using hx
 have hat:tys = #[t]:=by apply Array.ext'; simpa using ht
 subst hax hat;exact UU ho hm he;cases hs;cases hs;cases hs;cases hs;rename_i hcl;split at hs;rename_i hp; cases hs; left; rw[areadB_eq] at hp; unfold SemStep; rw[hcl]; exact⟨ReadS.of hp,rfl⟩;split at hs;rename_i ho;split at hs;rename_i hl; cases hs; left; unfold SemStep; rw[hcl]; exact⟨YD ho hl,rfl⟩;cases hs;cases hs;rename_i hcl;split at hs;rename_i hp; rw[YI] at hs; cases hs; left; unfold SemStep; rw[hcl]; exact⟨_,_,hp,rfl,rfl⟩;cases hs;rename_i hcl;left;split at hs;rename_i g args tys ho;split at hs;rename_i f caps hg;exact Ev.step ho hg (hc _ _ _ _ _ hs);rename_i f first caps hg;exact Ev.stepM ho hg (hc _ _ _ _ _ hs);cases hs;split at hs;rename_i hp;rw[YI] at hs; cases hs;unfold SemStep; rw[hcl];exact T0 hp;cases hs
theorem S0 {P : Program} {kill tx : Bool} {c1 c2 : FuncId → List AV → AHeap → Option (AV × AHeap)} (hc : ∀ f args h r h', c1 f args h = some (r, h') → c2 f args h = some (r, h')) {h h' : AHeap} {ρ : Operand → AV} {o : Oper} {v : AV}
    (hs:Z2 P kill tx c1 h ρ o=some (v,h')):Z2 P kill tx c2 h ρ o=some (v,h'):=by
 unfold Z2 at hs⊢;split at hs;exact hs;exact hs;exact hs;split at hs;split at hs;exact hc _ _ _ _ _ hs;exact hc _ _ _ _ _ hs;cases hs;exact hs
def isVCall (o:Oper):Bool:=match o.op with | .call {callee:=.value _,..}=>true|_=>false
def callsOf (l:List Oper):List Nat:=(l.zipIdx.filter fun p=>isVCall p.1).map (·.2)
def Vk (exs:List Nat) (kill:Bool) (k:Nat) (o:Oper):Bool:=exs.contains k && !(isApp o && !kill)
def J2 (exs:List Nat):Bool:=match exs with | [x]=>Nat.beq x 1000000|_=>false
theorem isTx_eq {exs:List Nat} (h:J2 exs=true):exs=TXT:=by
 unfold J2 at h;split at h;rw[Nat.eq_of_beq_eq_true h];cases h
noncomputable def ZC (P : Program) (kill : Bool) (call : FuncId → List AV → AHeap → Option (AV × AHeap)) (ops : Array Oper) (exs : List Nat) : Nat → List Oper → List AV → AHeap → Option (List AV × AHeap)
  | _,[],fr,h=>some (fr,h)
  | k,o::os,fr,h=>
    match (match o.guard with|none=>some true|some (j,want)=>(guardA ops fr j).map (· == some want)) with
    | some true=>match Z2 P kill (J2 exs) call h (evalA h.globs fr) o with
      | some (v,h')=>if (!Vk exs kill k o || Yp h h')=true then putS fr o.dst v fun fr'=>ZC P kill call ops exs (k+1) os fr' h' else none
      | none=>none
    | some false=>putS fr o.dst (.tup []) fun fr'=>ZC P kill call ops exs (k+1) os fr' h
    | none=>none
theorem Yy {P : Program} {kill : Bool} {call : FuncId → List AV → AHeap → Option (AV × AHeap)} (hc : ∀ f args h r h', call f args h = some (r, h') → Ev P f args h r h') {ops : Array Oper} {exs : List Nat} {fr' : List AV} {h' : AHeap} :
    ∀ (l:List Oper) (k:Nat) (fr:List AV) (h:AHeap),ZC P kill call ops exs k l fr h=some (fr',h')→AOps P ops exs (fun f1 h1=>f1=fr'∧h1=h') k l fr h:=by
 intro l
 induction l with
 | nil=>intro k fr h hs; cases hs; exact⟨rfl,rfl⟩
 | cons o os ih=>
  intro k fr h hs
  have hgo : ∀ v h1, Z2 P kill (J2 exs) call h (evalA h.globs fr) o = some (v, h1) → (!Vk exs kill k o || Yp h h1) = true → ZC P kill call ops exs (k + 1) os (setF fr o.dst v) h1 = some (fr', h') →
      ∃ v h1,(SemStep P (evalA h.globs fr) o h v h1∨(exs=TXT∧StepS P (evalA h.globs fr) o h v h1))∧(exs.contains k=true→WFH h→HExt h h1)∧AOps P ops exs (fun f1 h1=>f1=fr'∧h1=h') (k+1) os (setF fr o.dst v) h1:=by
    intro v h1 hst htest hrest;refine⟨v,h1,(S1 hc hst).imp id (fun q=>⟨isTx_eq q.1,q.2⟩),?_,ih (k+1) _ h1 hrest⟩;intro hk wf;rw[fC] at htest;rcases htest with ht|ht
    · simp only[Vk,hk,Bool.true_and,Bool.not_not,dO,fA] at ht;obtain⟨happ,hkill⟩:=ht;subst hkill;unfold isApp at happ;split at happ
      · rename_i args tys hop;simp only[Z2,hop,clsOf,Ut,Ws,Zo] at hst;split at hst
        · rename_i hp;split at hp
          · split at hp
            · rw[YI] at hst; cases hst;exact SU wf hp
            · rw[YI] at hst; cases hst;exact TN wf hp
          · cases hp
        · cases hst
      · cases happ
    · exact TI ht
  unfold ZC at hs;unfold AOps;have hgo2:(match Z2 P kill (J2 exs) call h (evalA h.globs fr) o with
      | some (v,h')=>if (!Vk exs kill k o || Yp h h')=true then putS fr o.dst v fun fr'=>ZC P kill call ops exs (k+1) os fr' h' else none
      | none=>none)=some (fr',h')→∃ v h1,(SemStep P (evalA h.globs fr) o h v h1∨(exs=TXT∧StepS P (evalA h.globs fr) o h v h1))∧(exs.contains k=true→WFH h→HExt h h1)∧AOps P ops exs (fun f1 h1=>f1=fr'∧h1=h') (k+1) os (setF fr o.dst v) h1:=by
    intro hs;split at hs
    · rename_i v h1 hst;split at hs
      · rename_i ht;rw[Va] at hs;exact hgo v h1 hst ht hs
      · cases hs
    · cases hs
  cases hg:o.guard with
  | none=>
   simp only[hg] at hs⊢;exact hgo2 hs
  | some jw=>
   obtain⟨j,want⟩:=jw;simp only[hg] at hs⊢
   cases hga:guardA ops fr j with
   | none=>rw[hga] at hs; simp at hs
   | some b=>
    rw[hga] at hs;simp only[Option.map_some] at hs;refine⟨b,rfl,?_,?_⟩;intro hbw;have:(b == some want)=true:=by simp[hbw]
    rw[this] at hs;exact hgo2 hs;intro hbw;have:(b == some want)=false:=by simp[hbw]
    rw[this] at hs;simp only at hs;rw[Va] at hs;exact ih (k+1) _ h hs
theorem X5 {P:Program} {kill:Bool} {call:FuncId→List AV→AHeap→Option (AV × AHeap)} {ops:Array Oper} {exs:List Nat} {fr':List AV} {h':AHeap}:∀ (l:List Oper) (k:Nat) (fr:List AV) (h:AHeap),ZC P kill call ops exs k l fr h=some (fr',h')→fr'.length=fr.length:=by
 have hset:∀ (fr:List AV) (d:Option Tmp) (v:AV),(setF fr d v).length=fr.length:=by intro fr d v; cases d <;> simp[setF]
 intro l
 induction l with
 | nil=>intro k fr h hs; cases hs; rfl
 | cons o os ih=>
  intro k fr h hs;unfold ZC at hs;split at hs;split at hs;split at hs;rw[Va] at hs; rw[ih _ _ _ hs,hset];cases hs;cases hs;rw[Va] at hs; rw[ih _ _ _ hs,hset];cases hs
def RL (sz:Nat) (l:List Oper) (exs:List Nat) (c r:Nat):Bool:=Nat.blt r c && (Nat.ble (c+1) l.length && (rgOk sz l exs [(c,r)] && (match l[r]? with
  | some o=>(match o.op,o.dst with
    | .load _ (.tmp a),some d=>Nat.blt d sz && ((List.range' r (c+1 - r)).all fun j=>match l[j]? with|some oj=>oj.dst != some a && (j == r || oj.dst != some d)|none=>true)
    | _,_=>false)
  | none=>false)))
def candB (l:List Oper) (p:Nat × Nat):Bool:=(match l[p.1]? with|some o=>isChain o|none=>false) && (match l[p.2]? with|some o=>(match o.op with | .load _ _=>true|_=>false)|none=>false)
def pairOf (sz:Nat) (l:List Oper) (exs:List Nat):Option (Nat × Nat):=((fB l.length).flatMap fun c=>(fB c).map fun r=>(c,r)).find? fun p=>candB l p && RL sz l exs p.1 p.2
def planOf (sz:Nat) (l:List Oper):List Nat × Option (Nat × Nat):=
  if rgOk sz l (YL l)=true then (YL l,none) else match pairOf sz l (YL l) with
    | some p=>(YL l,some p)
    | none=>match pairOf sz l [] with
      | some p=>([],some p)
      | none=>if rgOk sz l (YL l ++ callsOf l)=true then (YL l ++ callsOf l,none) else (YL l,none)
def planOk (sz:Nat) (l:List Oper):Bool:=match planOf sz l with|(exs,none)=>rgOk sz l exs|(exs,some p)=>RL sz l exs p.1 p.2
noncomputable def Rf (P:Program) (l:List Oper) (r:Nat) (ρ:Nat→AV) (h:AHeap):Bool:=match l[r]? with
  | some o=>(match o.op,o.dst with
    | .load t (.tmp a),some d=>(match K9 P h t (ρ a) with|some v=>AV.eqF 4 v (ρ d)|none=>false)
    | _,_=>false)
  | none=>false
noncomputable def regX (P:Program) (call:FuncId→List AV→AHeap→Option (AV × AHeap)) (ops:Array Oper) (sz:Nat) (draw:Bool) (fr:List AV) (h:AHeap):Option (List AV × AHeap):=
  if draw=true then (match planOf sz ops.toList with
    | (exs,none)=>ZC P false call ops exs 0 ops.toList fr h
    | (exs,some p)=>match ZC P (exs.isEmpty) call ops exs 0 (ops.toList.take (p.1+1)) fr h with
      | some (fr1,h1)=>if Rf P ops.toList p.2 (fun t=>fr1.getD t .bot) h1=true then ZC P (exs.isEmpty) call ops exs (p.1+1) (ops.toList.drop (p.1+1)) fr1 h1 else none
      | none=>none)
  else ZC P true call ops TXT 0 ops.toList fr h
theorem regX_sound {P : Program} (hm : P.follows .mixedOrders = true) {call : FuncId → List AV → AHeap → Option (AV × AHeap)} (hc : ∀ f args h r h', call f args h = some (r, h') → Ev P f args h r h') {id sz : Nat} {ops : Array Oper} {draw : Bool} {fr fr' : List AV} {h h' : AHeap}
    (hok:draw=true→planOk sz ops.toList=true) (hsz:fr.length=sz) (hr:regX P call ops sz draw fr h=some (fr',h')):fr'.length=sz∧AW P (.region id ops draw) (fun e1 f1 h1=>e1 = .normal∧f1=fr'∧h1=h') fr h:=by
 unfold regX at hr
 cases draw with
 | false=>
  rw[if_neg aE] at hr;refine⟨(X5 _ _ _ _ hr).trans hsz,?_⟩;have:=Yy hc (exs:=TXT) ops.toList 0 fr h hr;refine AW.region (ex:=TXT) rfl ?_;refine QN ?_ _ _ _ _ this;rintro f2 h2 ⟨rfl,rfl⟩;exact⟨rfl,rfl,rfl⟩
 | true=>
  have hok:=hok rfl;rw[if_pos rfl] at hr;unfold planOk at hok;split at hr;rename_i exs hp;rw[hp] at hok;refine⟨(X5 _ _ _ _ hr).trans hsz,?_⟩;have:=Yy hc ops.toList 0 fr h hr;refine AW.region_draw hm rfl (rgOk_sound rfl hok) hsz ?_;refine QN ?_ _ _ _ _ this;rintro f2 h2 ⟨rfl,rfl⟩;exact⟨rfl,rfl,rfl⟩;rename_i exs p hp;rw[hp] at hok;simp only at hok;split at hr;rename_i fr1 h1 ha;split at hr;rename_i hre;have l1:=X5 _ _ _ _ ha;have l2:=X5 _ _ _ _ hr;refine⟨by omega,?_⟩;obtain⟨c,r⟩:=p;simp only at ha hr hre hok;unfold RL at hok;simp only[dO] at hok;obtain⟨hrc,hlen,hrg,hm2⟩:=hok;have hrc:r<c:=by simpa using hrc
  have hlen:c+1≤ops.toList.length:=by simpa using hlen
  split at hm2;rename_i o hro;split at hm2;rename_i t a d hop hod;simp only[dO] at hm2;obtain⟨hdz,hno⟩:=hm2;have hdz:d<sz:=by simpa using hdz
  have hrl:K9 P h1 t (fr1.getD a .bot)=some (fr1.getD d .bot):=by
   unfold Rf at hre;simp only[hro,hop,hod] at hre;split at hre;rename_i v hv;rw[hv,AV.eqF_eq 4 _ _ hre];cases hre
  have hs1:=Yy hc (ops:=ops) (ops.toList.take (c+1)) 0 fr h ha;have hs2:=Yy hc (ops:=ops) (ops.toList.drop (c+1)) (c+1) fr1 h1 hr;refine AW.region_drawS (c:=c) (r:=r) (t:=t) (a:=a) (d:=d) hm (List.take_append_drop (c+1) ops.toList).symm (by rw[List.length_take]; omega) (rgOk_sound rfl hrg) hsz hrc (o:=o) (by rw[←Array.getElem?_toList]; exact hro) hop hod hdz ?_ ?_;intro j oj h1 h2 hj;have:=dP.1 hno j (List.mem_range'_1.2 ⟨h1,by omega⟩);rw[←Array.getElem?_toList] at hj;simp only[hj,dO,bne_iff_ne,fC,beq_iff_eq] at this;exact⟨this.1,fun h3=>this.2.resolve_left aA⟩;refine QN ?_ _ _ _ _ hs1;rintro f2 h2 ⟨rfl,rfl⟩;refine⟨hrl,QN ?_ _ _ _ _ hs2⟩;rintro f3 h3 ⟨rfl,rfl⟩;exact⟨rfl,rfl,rfl⟩;cases hm2;cases hm2;cases hr;cases hr
def Q2 (sz : Nat) : Code → Bool
  | .seq a b=>Q2 sz a && Q2 sz b
  | .cond _ a b=>Q2 sz a && Q2 sz b
  | .block _ b=>Q2 sz b
  | .loop b=>Q2 sz b
  | .scope b=>Q2 sz b
  | .region _ ops true=>planOk sz ops.toList
  | _=>true
def X2 (P:Program) (h:AHeap) (fr:List AV) (rs:List ResultVar):Option AV:=(ZE P h fr rs).map Xu
noncomputable def YJ (P:Program) (ok:FuncId→Bool) (run:Nat→Code→List AV→AHeap→Option (Ex × List AV × AHeap)) (f:FuncId) (args:List AV) (h:AHeap):Option (AV × AHeap):=
  if ok f then
    match P.funcs[f]? with
    | some fn=>match fn.body with
      | some c=>if args.length≤fn.ntmps then
          match run fn.ntmps c (Q7 args fn.ntmps) h with
          | some (.normal,fr,h')=>(X2 P h' fr fn.results.toList).map fun x=>(x,h')
          | some (.ret,fr,h')=>(X2 P h' fr fn.results.toList).map fun x=>(x,h')
          | _=>none
        else none
      | none=>none
    | none=>none
  else none
abbrev Orc:=FuncId→List AV→AHeap→Option (AV × AHeap)
def noOrc:Orc:=fun _ _ _=>none
def orE (orc:Orc) (call:FuncId→List AV→AHeap→Option (AV × AHeap)) (f:FuncId) (args:List AV) (h:AHeap):Option (AV × AHeap):=match orc f args h with
  | some r=>some r
  | none=>call f args h
def VH (P:Program) (orc:Orc):Prop:=∀ f args h r h',orc f args h=some (r,h')→Ev P f args h r h'
theorem Jx {P:Program}:VH P noOrc:=fun _ _ _ _ _ h=>by cases h
theorem orE_ev {P:Program} {orc:Orc} {call:FuncId→List AV→AHeap→Option (AV × AHeap)} (ho:VH P orc) (hc:∀ f args h r h',call f args h=some (r,h')→Ev P f args h r h'):∀ f args h r h',orE orc call f args h=some (r,h')→Ev P f args h r h':=by
 intro f args h r h' he;unfold orE at he;split at he;rename_i q hq;cases he;exact ho _ _ _ _ _ hq;exact hc _ _ _ _ _ he
theorem orE_mono {orc:Orc} {c1 c2:FuncId→List AV→AHeap→Option (AV × AHeap)} (hc:∀ f args h r h',c1 f args h=some (r,h')→c2 f args h=some (r,h')):∀ f args h r h',orE orc c1 f args h=some (r,h')→orE orc c2 f args h=some (r,h'):=by
 intro f args h r h' he;unfold orE at he⊢;split at he;exact he;exact hc _ _ _ _ _ he
noncomputable def Qj (P : Program) (orc : Orc) (ok : FuncId → Bool) : Nat → Nat → Code → List AV → AHeap → Option (Ex × List AV × AHeap)
  | 0,_,_,_,_=>none
  | n+1,sz,c,fr,h=>match c with
    | .skip=>some (.normal,fr,h)
    | .label _=>some (.normal,fr,h)
    | .ret=>some (.ret,fr,h)
    | .exit id=>some (.exit id,fr,h)
    | .seq a b=>match Qj P orc ok n sz a fr h with
      | some (.normal,fr',h')=>Qj P orc ok n sz b fr' h'
      | r=>r
    | .cond c a b=>match evalA h.globs fr c with
      | .bool true=>Qj P orc ok n sz a fr h
      | .bool false=>Qj P orc ok n sz b fr h
      | _=>none
    | .block id b=>match Qj P orc ok n sz b fr h with
      | some (.exit id',fr',h')=>if id'=id then some (.normal,fr',h') else some (.exit id',fr',h')
      | r=>r
    | .loop b=>match Qj P orc ok n sz b fr h with
      | some (.normal,fr',h')=>Qj P orc ok n sz (.loop b) fr' h'
      | r=>r
    | .scope b=>Qj P orc ok n sz b fr h
    | .region _ ops draw=>match regX P (orE orc (YJ P ok (Qj P orc ok n))) ops sz draw fr h with
      | some (fr',h')=>some (.normal,fr',h')
      | none=>none
    | _=>none
def W9 (P:Program) (f:FuncId):Bool:=match P.funcs[f]? with
  | some fn=>!(fn.name == "runtime.NumGoroutine") && (match fn.body with|some c=>Q2 fn.ntmps c|none=>false)
  | none=>false
theorem SY {P : Program} {orc : Orc} {ok : FuncId → Bool} (horc : VH P orc) (hm : P.follows .mixedOrders = true) (hok : ∀ f, ok f = true → W9 P f = true) :
    ∀ (n : Nat) (c : Code) (fr : List AV) (h : AHeap) (e : Ex) (fr' : List AV) (h' : AHeap) (sz : Nat), Q2 sz c = true → fr.length = sz → Qj P orc ok n sz c fr h = some (e, fr', h') →
      fr'.length=sz∧AW P c (fun e1 f1 h1=>e1=e∧f1=fr'∧h1=h') fr h:=by
 intro n
 induction n using Nat.strongRecOn with
 | _ n ih=>
  intro c fr h e fr' h' sz hco hsz hr
  cases n with
  | zero=>cases hr
  | succ n=>
   have ihn:=ih n aA;unfold Qj at hr
   cases c with
   | skip=>cases hr; exact⟨hsz,AW.skip ⟨rfl,rfl,rfl⟩⟩
   | label l=>cases hr; exact⟨hsz,AW.label ⟨rfl,rfl,rfl⟩⟩
   | ret=>cases hr; exact⟨hsz,AW.ret ⟨rfl,rfl,rfl⟩⟩
   | exit id=>cases hr; exact⟨hsz,AW.exit ⟨rfl,rfl,rfl⟩⟩
   | goto l=>cases hr
   | scope b=>
    simp only[Q2] at hco;obtain⟨l1,w1⟩:=ihn b fr h e fr' h' sz hco hsz hr;exact⟨l1,AW.scope w1⟩
   | refuse w=>cases hr
   | rangeFunc f p a b=>cases hr
   | seq a b=>
    simp only[Q2,dO] at hco;simp only at hr
    cases ha:Qj P orc ok n sz a fr h with
    | none=>rw[ha] at hr; cases hr
    | some r=>
     obtain⟨e1,f1,h1⟩:=r;obtain⟨l1,w1⟩:=ihn a fr h e1 f1 h1 sz hco.1 hsz ha;rw[ha] at hr
     cases e1 with
     | normal=>
      obtain⟨l2,w2⟩:=ihn b f1 h1 e fr' h' sz hco.2 l1 hr;refine⟨l2,AW.seq (w1.mono ?_)⟩;rintro e2 f2 h2 ⟨rfl,rfl,rfl⟩;exact w2
     | ret=>
      cases hr;refine⟨l1,AW.seq (w1.mono ?_)⟩;rintro e2 f2 h2 ⟨rfl,rfl,rfl⟩;exact⟨rfl,rfl,rfl⟩
     | exit id=>
      cases hr;refine⟨l1,AW.seq (w1.mono ?_)⟩;rintro e2 f2 h2 ⟨rfl,rfl,rfl⟩;exact⟨rfl,rfl,rfl⟩
   | cond x a b=>
    simp only[Q2,dO] at hco;simp only at hr
    cases hx:evalA h.globs fr x with
    | bool t=>
     rw[hx] at hr
     cases t with
     | true=>
      obtain⟨l1,w1⟩:=ihn a fr h e fr' h' sz hco.1 hsz hr;exact⟨l1,AW.cond hx (by simpa using w1)⟩
     | false=>
      obtain⟨l1,w1⟩:=ihn b fr h e fr' h' sz hco.2 hsz hr;exact⟨l1,AW.cond hx (by simpa using w1)⟩
    | _=>rw[hx] at hr; cases hr
   | block id b=>
    simp only[Q2] at hco;simp only at hr
    cases hb:Qj P orc ok n sz b fr h with
    | none=>rw[hb] at hr; cases hr
    | some r=>
     obtain⟨e1,f1,h1⟩:=r;obtain⟨l1,w1⟩:=ihn b fr h e1 f1 h1 sz hco hsz hb;rw[hb] at hr
     cases e1 with
     | normal=>
      cases hr;refine⟨l1,AW.block (w1.mono ?_)⟩;rintro e2 f2 h2 ⟨rfl,rfl,rfl⟩;simp
     | ret=>
      cases hr;refine⟨l1,AW.block (w1.mono ?_)⟩;rintro e2 f2 h2 ⟨rfl,rfl,rfl⟩;simp
     | exit id'=>
      simp only at hr;split at hr;rename_i hid;cases hr;refine⟨l1,AW.block (w1.mono ?_)⟩;rintro e2 f2 h2 ⟨rfl,rfl,rfl⟩;simp[hid];rename_i hid;cases hr;refine⟨l1,AW.block (w1.mono ?_)⟩;rintro e2 f2 h2 ⟨rfl,rfl,rfl⟩;simp[hid]
   | loop b=>
    have hcb:Q2 sz b=true:=hco;have hlen:∀ m,m≤n→∀ f1 h1,f1.length=sz→Qj P orc ok (m+1) sz (.loop b) f1 h1=some (e,fr',h')→fr'.length=sz:=by
     intro m hm f1 h1 hf1 hr1;exact(ih (m+1 - 1) aA b f1 h1 e fr' h' sz hcb hf1 |> fun _=>by
      by_cases hmn:m+1<n+1;exact(ih (m+1) hmn (.loop b) f1 h1 e fr' h' sz hco hf1 hr1).1
      ·have:m=n:=by omega
       subst this;unfold Qj at hr1;simp only at hr1
       cases hb:Qj P orc ok m sz b f1 h1 with
       | none=>rw[hb] at hr1; cases hr1
       | some r=>
        obtain⟨e1,f2,h2⟩:=r;have l1:=(ihn b f1 h1 e1 f2 h2 sz hcb hf1 hb).1;rw[hb] at hr1
        cases e1 with
        | normal=>exact(ihn (.loop b) f2 h2 e fr' h' sz hco l1 hr1).1
        | ret=>cases hr1; exact l1
        | exit id=>cases hr1; exact l1)
    have hr':Qj P orc ok (n+1) sz (.loop b) fr h=some (e,fr',h'):=by unfold Qj; exact hr
    refine⟨hlen n (fE _) fr h hsz hr',?_⟩;refine AW.loop (fun m f1 h1=>m≤n+1∧f1.length=sz∧Qj P orc ok m sz (.loop b) f1 h1=some (e,fr',h')) ?_ (n+1) fr h ⟨fE _,hsz,hr'⟩;rintro m f1 h1 ⟨hmn,hf1,hr1⟩
    cases m with
    | zero=>cases hr1
    | succ m=>
     unfold Qj at hr1;simp only at hr1
     cases hb:Qj P orc ok m sz b f1 h1 with
     | none=>rw[hb] at hr1; cases hr1
     | some r=>
      obtain⟨e1,f2,h2⟩:=r;obtain⟨l1,w1⟩:=ih m aA b f1 h1 e1 f2 h2 sz hcb hf1 hb;rw[hb] at hr1;refine w1.mono ?_;rintro e2 f3 h3 ⟨rfl,rfl,rfl⟩
      cases e2 with
      | normal=>exact⟨m,by omega,by omega,l1,hr1⟩
      | ret=>cases hr1; exact⟨rfl,rfl,rfl⟩
      | exit id=>cases hr1; exact⟨rfl,rfl,rfl⟩
   | region id ops draw=>
    simp only at hr;have hcall:∀ f args h r h',YJ P ok (Qj P orc ok n) f args h=some (r,h')→Ev P f args h r h':=by
     intro f args h r h' hc;unfold YJ at hc;split at hc;rename_i hokf;have hfn:=hok f hokf;unfold W9 at hfn;split at hc;rename_i fn hf;rw[hf] at hfn;simp only[dO,fA] at hfn;split at hc;rename_i body hb;rw[hb] at hfn;split at hc;rename_i hargs;have key:∀ e fr h',Qj P orc ok n fn.ntmps body (Q7 args fn.ntmps) h=some (e,fr,h')→(e = .normal∨e = .ret)→∀ x,X2 P h' fr fn.results.toList=some x→Ev P f args h x h':=by
      intro e fr h' hrun he x hx;obtain⟨_,w⟩:=ihn body _ h e fr h' fn.ntmps hfn.2 (UX hargs) hrun;simp only[X2,dU] at hx;obtain⟨l,hl,rfl⟩:=hx;have:=ACalls.of_bodyH (args:=args) (h:=h) (R:=fun r h1=>r=Xu l∧h1=h') hf hb hfn.1 (w.mono (by
       rintro e1 f1 h1 ⟨rfl,rfl,rfl⟩;exact⟨he,l,hl,rfl,rfl⟩))
      obtain⟨r,h1,hev,rfl,rfl⟩:=this;exact hev
     split at hc;rename_i fr1 h1 hrun;simp only[dU,dX] at hc;obtain⟨x,hx,rfl,rfl⟩:=hc;exact key _ _ _ hrun (.inl rfl) x hx;rename_i fr1 h1 hrun;simp only[dU,dX] at hc;obtain⟨x,hx,rfl,rfl⟩:=hc;exact key _ _ _ hrun (.inr rfl) x hx;cases hc;cases hc;cases hc;cases hc;cases hc
    cases ho:regX P (orE orc (YJ P ok (Qj P orc ok n))) ops sz draw fr h with
    | none=>rw[ho] at hr; cases hr
    | some r=>
     obtain⟨f1,h1⟩:=r;rw[ho] at hr;cases hr;exact regX_sound hm (orE_ev horc hcall) (fun q=>by subst q; exact hco) hsz ho
end Go.Am
namespace Go.Am
noncomputable def Yz (P : Program) (kill : Bool) (call : FuncId → List AV → AHeap → Option (AV × AHeap)) (ops : Array Oper) (exs : List Nat) : Nat → List Oper → Tr → AHeap → Option (Tr × AHeap)
  | _,[],tr,h=>some (tr,h)
  | k,o::os,tr,h=>
    match (match o.guard with|none=>some true|some (j,want)=>(WO ops tr j).map (· == some want)) with
    | some true=>match Z2 P kill (J2 exs) call h (XB h.globs tr) o with
      | some (v,h')=>if (!Vk exs kill k o || Yp h h')=true then putT tr o.dst v fun tr'=>Yz P kill call ops exs (k+1) os tr' h' else none
      | none=>none
    | some false=>putT tr o.dst (.tup []) fun tr'=>Yz P kill call ops exs (k+1) os tr' h
    | none=>none
theorem YA {P : Program} {kill : Bool} {c1 c2 : FuncId → List AV → AHeap → Option (AV × AHeap)} (hc : ∀ f args h r h', c1 f args h = some (r, h') → c2 f args h = some (r, h')) {ops : Array Oper} {exs : List Nat} {tr' : Tr} {h' : AHeap} :
    ∀ (l:List Oper) (k:Nat) (tr:Tr) (fr:List AV) (h:AHeap),l.all Vi=true→Rep tr fr→Yz P kill c1 ops exs k l tr h=some (tr',h')→∃ fr',Rep tr' fr'∧ZC P kill c2 ops exs k l fr h=some (fr',h'):=by
 intro l
 induction l with
 | nil=>intro k tr fr h _ r hs; cases hs; exact⟨fr,r,rfl⟩
 | cons o os ih=>
  intro k tr fr h hsm r hs;simp only[fO,dO] at hsm;have hput:∀ (v:AV) (h1:AHeap),putT tr o.dst v (fun tr'=>Yz P kill c1 ops exs (k+1) os tr' h1)=some (tr',h')→∃ fr',Rep tr' fr'∧ZC P kill c2 ops exs (k+1) os (setF fr o.dst v) h1=some (fr',h'):=by
   intro v h1 hp;unfold putT at hp;split at hp;rename_i d hd;rw[JE,Tr.setK_eq] at hp;have hdl:d<4095:=by
    have:=hsm.1;simp only[Vi,hd] at this;exact of_blt this
   simp only[setF,hd];exact ih _ _ _ h1 hsm.2 (r.set d hdl v) hp;rename_i hd;simp only[setF,hd];exact ih _ _ _ h1 hsm.2 r hp
  unfold Yz at hs;unfold ZC;have hgo:(match Z2 P kill (J2 exs) c1 h (XB h.globs tr) o with
      | some (v,h')=>if (!Vk exs kill k o || Yp h h')=true then putT tr o.dst v fun tr'=>Yz P kill c1 ops exs (k+1) os tr' h' else none
      | none=>none)=some (tr',h')→
      ∃ fr',Rep tr' fr'∧(match Z2 P kill (J2 exs) c2 h (evalA h.globs fr) o with
        | some (v,h')=>if (!Vk exs kill k o || Yp h h')=true then putS fr o.dst v fun fr'=>ZC P kill c2 ops exs (k+1) os fr' h' else none
        | none=>none)=some (fr',h'):=by
    intro hs;rw[Yo r] at hs;split at hs
    · rename_i v h1 hst;split at hs
      · rename_i ht;simp only[S0 hc hst,Va,ht,if_true];exact hput v h1 hs
      · cases hs
    · cases hs
  cases hgd:o.guard with
  | none=>
   simp only[hgd] at hs⊢;exact hgo hs
  | some jw=>
   obtain⟨j,want⟩:=jw;simp only[hgd,guardT_eq r] at hs⊢
   cases hga:(guardA ops fr j).map (· == some want) with
   | none=>rw[hga] at hs; cases hs
   | some b=>
    rw[hga] at hs
    cases b with
    | true=>exact hgo hs
    | false=>
     simp only[Va];exact hput _ h hs
noncomputable def RP (P:Program) (l:List Oper) (r:Nat) (tr:Tr) (h:AHeap):Bool:=match l[r]? with
  | some o=>(match o.op,o.dst with
    | .load t (.tmp a),some d=>(match JQ P h t (XB [] tr (.tmp a)) with|some v=>AV.eqF 4 v (XB [] tr (.tmp d))|none=>false)
    | _,_=>false)
  | none=>false
theorem reloadY_eq {P:Program} {l:List Oper} {r:Nat} {tr:Tr} {fr:List AV} {h:AHeap} (rp:Rep tr fr):RP P l r tr h=Rf P l r (fun t=>fr.getD t .bot) h:=by
 unfold RP Rf;simp only[Yo rp,JR];rfl
noncomputable def regY (P:Program) (call:FuncId→List AV→AHeap→Option (AV × AHeap)) (ops:Array Oper) (sz:Nat) (draw:Bool) (tr:Tr) (h:AHeap):Option (Tr × AHeap):=
  if draw=true then (match planOf sz ops.toList with
    | (exs,none)=>Yz P false call ops exs 0 ops.toList tr h
    | (exs,some p)=>match Yz P (exs.isEmpty) call ops exs 0 (ops.toList.take (p.1+1)) tr h with
      | some (tr1,h1)=>if RP P ops.toList p.2 tr1 h1=true then Yz P (exs.isEmpty) call ops exs (p.1+1) (ops.toList.drop (p.1+1)) tr1 h1 else none
      | none=>none)
  else Yz P true call ops TXT 0 ops.toList tr h
theorem all_take {α:Type} {p : α→Bool} {l:List α} (h:l.all p=true) (n:Nat):(l.take n).all p=true:=dP.2 fun x hx=>dP.1 h x (List.mem_of_mem_take hx)
theorem all_drop {α:Type} {p : α→Bool} {l:List α} (h:l.all p=true) (n:Nat):(l.drop n).all p=true:=dP.2 fun x hx=>dP.1 h x (List.mem_of_mem_drop hx)
theorem regY_sound {P : Program} {c1 c2 : FuncId → List AV → AHeap → Option (AV × AHeap)} (hc : ∀ f args h r h', c1 f args h = some (r, h') → c2 f args h = some (r, h')) {ops : Array Oper} {sz : Nat} {draw : Bool} {tr tr' : Tr} {fr : List AV} {h h' : AHeap}
    (hsm:ops.toList.all Vi=true) (rp:Rep tr fr) (hs:regY P c1 ops sz draw tr h=some (tr',h')):∃ fr',Rep tr' fr'∧regX P c2 ops sz draw fr h=some (fr',h'):=by
 unfold regY at hs;unfold regX;split at hs
 ·rename_i hd;rw[if_pos hd];split at hs
  ·rename_i exs hp
   first|simp only[hp] | skip
   exact YA hc _ _ _ _ _ hsm rp hs
  ·rename_i exs p hp
   first|simp only[hp] | skip
   split at hs;rename_i tr1 h1 ha;split at hs;rename_i hre;obtain⟨f1,r1,e1⟩:=YA hc _ _ _ _ _ (all_take hsm _) rp ha;obtain⟨f2,r2,e2⟩:=YA hc _ _ _ _ _ (all_drop hsm _) r1 hs;rw[reloadY_eq r1] at hre;simp only[e1,hre,if_true,e2];exact⟨f2,r2,rfl⟩;cases hs;cases hs
 rename_i hd;rw[if_neg hd];exact YA hc _ _ _ _ _ hsm rp hs
noncomputable def Ug (P : Program) (h : AHeap) (tr : Tr) : List ResultVar → Option (List AV)
  | []=>some []
  | .tmp t::rs=>match Ug P h tr rs with|some l=>some (XB [] tr (.tmp t)::l)|none=>none
  | .cell a t::rs=>match JQ P h t (XB [] tr (.tmp a)),Ug P h tr rs with|some v,some l=>some (v::l)|_,_=>none
theorem RQ {P : Program} {h : AHeap} {tr : Tr} {fr : List AV} (r : Rep tr fr) : ∀ rs, Ug P h tr rs = ZE P h fr rs
  | []=>rfl
  | .tmp t::rs=>by
    simp only[Ug,ZE,RQ r rs,Yo r]
    cases ZE P h fr rs <;> rfl
  | .cell a t::rs=>by
    simp only[Ug,ZE,RQ r rs,Yo r,JR];show _=(K9 P h t (evalA [] fr (.tmp a))).bind _
    cases K9 P h t (evalA [] fr (.tmp a)) with
    | none=>rfl
    | some v=>cases ZE P h fr rs <;> rfl
noncomputable def YM (P:Program) (ok:FuncId→Bool) (run:Nat→Code→Tr→AHeap→Option (Ex × Tr × AHeap)) (f:FuncId) (args:List AV) (h:AHeap):Option (AV × AHeap):=
  if ok f then
    match P.funcs[f]? with
    | some fn=>match fn.body with
      | some c=>if args.length≤fn.ntmps∧fn.ntmps≤2000 then
          Ww args 0 (Tr.blank fn.ntmps 12 1 0) fun tr=>match run fn.ntmps c tr h with
          | some (.normal,tr,h')=>match Ug P h' tr fn.results.toList with|some l=>some (Xu l,h')|none=>none
          | some (.ret,tr,h')=>match Ug P h' tr fn.results.toList with|some l=>some (Xu l,h')|none=>none
          | _=>none
        else none
      | none=>none
    | none=>none
  else none
noncomputable def Zf (P : Program) (orc : Orc) (ok : FuncId → Bool) : Nat → Nat → Code → Tr → AHeap → Option (Ex × Tr × AHeap)
  | 0,_,_,_,_=>none
  | n+1,sz,c,tr,h=>match c with
    | .skip=>some (.normal,tr,h)
    | .label _=>some (.normal,tr,h)
    | .ret=>some (.ret,tr,h)
    | .exit id=>some (.exit id,tr,h)
    | .seq a b=>match Zf P orc ok n sz a tr h with
      | some (.normal,tr',h')=>Zf P orc ok n sz b tr' h'
      | r=>r
    | .cond c a b=>match XB h.globs tr c with
      | .bool true=>Zf P orc ok n sz a tr h
      | .bool false=>Zf P orc ok n sz b tr h
      | _=>none
    | .block id b=>match Zf P orc ok n sz b tr h with
      | some (.exit id',tr',h')=>if id'=id then some (.normal,tr',h') else some (.exit id',tr',h')
      | r=>r
    | .loop b=>match Zf P orc ok n sz b tr h with
      | some (.normal,tr',h')=>Zf P orc ok n sz (.loop b) tr' h'
      | r=>r
    | .scope b=>Zf P orc ok n sz b tr h
    | .region _ ops draw=>match regY P (orE orc (YM P ok (Zf P orc ok n))) ops sz draw tr h with
      | some (tr',h')=>some (.normal,tr',h')
      | none=>none
    | _=>none
def Qh : Code → Bool
  | .seq a b=>Qh a && Qh b
  | .cond _ a b=>Qh a && Qh b
  | .block _ b=>Qh b
  | .loop b=>Qh b
  | .scope b=>Qh b
  | .region _ ops _=>ops.toList.all Vi
  | _=>true
def VC (P:Program) (f:FuncId):Bool:=match P.funcs[f]? with
  | some fn=>match fn.body with|some c=>Qh c|none=>true
  | none=>true
theorem R3 {P : Program} {ok : FuncId → Bool} (hsm : ∀ f, ok f = true → VC P f = true) {run : Nat → Code → Tr → AHeap → Option (Ex × Tr × AHeap)} {runA : Nat → Code → List AV → AHeap → Option (Ex × List AV × AHeap)}
    (hrun:∀ sz c tr fr h e tr' h',Qh c=true→Rep tr fr→run sz c tr h=some (e,tr',h')→∃ fr',Rep tr' fr'∧runA sz c fr h=some (e,fr',h')) {f:FuncId} {args:List AV} {h h':AHeap} {r:AV}
    (hc:YM P ok run f args h=some (r,h')):YJ P ok runA f args h=some (r,h'):=by
 unfold YM at hc;unfold YJ;split at hc
 ·rename_i hokf;have hs:=hsm f hokf;unfold VC at hs;rw[if_pos hokf];split at hc
  ·rename_i fn hf;rw[hf] at hs;simp only at hs
   first|simp only[hf] | skip
   split at hc
   ·rename_i c hb;rw[hb] at hs
    first|simp only[hb] | skip
    split at hc
    ·rename_i hargs;rw[TX] at hc;rw[if_pos hargs.1];have rep:Rep (Yu (Tr.blank fn.ntmps 12 1 0) args 0) (Q7 args fn.ntmps):=by
      have:=U3 args 0 _ [] _ (by simpa using Rep.blank fn.ntmps hargs.2) rfl (by simpa using hargs.1) aA;simpa [Q7] using this
     have hfin:∀ tr fr (q:AHeap),Rep tr fr→(match Ug P q tr fn.results.toList with|some l=>some (Xu l,q)|none=>none)=some (r,h')→(X2 P q fr fn.results.toList).map (fun x=>(x,q))=some (r,h'):=by
      intro tr fr q rp hh;rw[RQ rp] at hh;unfold X2
      cases hr:ZE P q fr fn.results.toList with
      | none=>rw[hr] at hh; cases hh
      | some l=>rw[hr] at hh; exact hh
     split at hc;rename_i tr1 h1 hr1;obtain⟨fr',rp,ha⟩:=hrun _ _ _ _ _ _ _ _ hs rep hr1;simp only[ha];exact hfin _ _ _ rp hc;rename_i tr1 h1 hr1;obtain⟨fr',rp,ha⟩:=hrun _ _ _ _ _ _ _ _ hs rep hr1;simp only[ha];exact hfin _ _ _ rp hc;cases hc
    cases hc
   cases hc
  cases hc
 cases hc
theorem S5 {P : Program} {orc : Orc} {ok : FuncId → Bool} (hsm : ∀ f, ok f = true → VC P f = true) :
    ∀ (n sz:Nat) (c:Code) (tr:Tr) (fr:List AV) (h:AHeap) (e:Ex) (tr':Tr) (h':AHeap),Qh c=true→Rep tr fr→Zf P orc ok n sz c tr h=some (e,tr',h')→∃ fr',Rep tr' fr'∧Qj P orc ok n sz c fr h=some (e,fr',h'):=by
 intro n
 induction n with
 | zero=>intro sz c tr fr h e tr' h' _ _ hr; cases hr
 | succ n ih=>
  intro sz c tr fr h e tr' h' hco r hr;unfold Zf at hr;unfold Qj
  cases c with
  | skip=>cases hr; exact⟨fr,r,rfl⟩
  | label l=>cases hr; exact⟨fr,r,rfl⟩
  | ret=>cases hr; exact⟨fr,r,rfl⟩
  | exit id=>cases hr; exact⟨fr,r,rfl⟩
  | goto l=>cases hr
  | scope b=>exact ih sz b tr fr h e tr' h' hco r hr
  | refuse w=>cases hr
  | rangeFunc f p a b=>cases hr
  | seq a b=>
   simp only[Qh,dO] at hco;simp only at hr⊢
   cases ha:Zf P orc ok n sz a tr h with
   | none=>rw[ha] at hr; cases hr
   | some q=>
    obtain⟨e1,t1,h1⟩:=q;obtain⟨f1,r1,a1⟩:=ih sz a tr fr h e1 t1 h1 hco.1 r ha;rw[ha] at hr;rw[a1]
    cases e1 with
    | normal=>exact ih sz b t1 f1 h1 e tr' h' hco.2 r1 hr
    | ret=>cases hr; exact⟨f1,r1,rfl⟩
    | exit id=>cases hr; exact⟨f1,r1,rfl⟩
  | cond x a b=>
   simp only[Qh,dO] at hco;simp only[Yo r] at hr⊢
   cases hx:evalA h.globs fr x with
   | bool t=>
    rw[hx] at hr
    cases t with
    | true=>exact ih sz a tr fr h e tr' h' hco.1 r hr
    | false=>exact ih sz b tr fr h e tr' h' hco.2 r hr
   | _=>rw[hx] at hr; cases hr
  | block id b=>
   simp only[Qh] at hco;simp only at hr⊢
   cases hb:Zf P orc ok n sz b tr h with
   | none=>rw[hb] at hr; cases hr
   | some q=>
    obtain⟨e1,t1,h1⟩:=q;obtain⟨f1,r1,a1⟩:=ih sz b tr fr h e1 t1 h1 hco r hb;rw[hb] at hr;rw[a1]
    cases e1 with
    | normal=>cases hr; exact⟨f1,r1,rfl⟩
    | ret=>cases hr; exact⟨f1,r1,rfl⟩
    | exit id'=>
     simp only at hr⊢;split at hr;rename_i hid; cases hr; rw[if_pos hid]; exact⟨f1,r1,rfl⟩;rename_i hid; cases hr; rw[if_neg hid]; exact⟨f1,r1,rfl⟩
  | loop b=>
   have hcb:Qh b=true:=hco;simp only at hr⊢
   cases hb:Zf P orc ok n sz b tr h with
   | none=>rw[hb] at hr; cases hr
   | some q=>
    obtain⟨e1,t1,h1⟩:=q;obtain⟨f1,r1,a1⟩:=ih sz b tr fr h e1 t1 h1 hcb r hb;rw[hb] at hr;rw[a1]
    cases e1 with
    | normal=>exact ih sz (.loop b) t1 f1 h1 e tr' h' hco r1 hr
    | ret=>cases hr; exact⟨f1,r1,rfl⟩
    | exit id=>cases hr; exact⟨f1,r1,rfl⟩
  | region id ops draw=>
   simp only at hr⊢
   cases ho:regY P (orE orc (YM P ok (Zf P orc ok n))) ops sz draw tr h with
   | none=>rw[ho] at hr; cases hr
   | some q=>
    obtain⟨t1,h1⟩:=q;rw[ho] at hr;cases hr;obtain⟨f1,r1,a1⟩:=regY_sound (c2:=orE orc (YJ P ok (Qj P orc ok n))) (orE_mono fun f args h r h' hc=>R3 hsm ih hc) hco r ho;rw[a1];exact⟨f1,r1,rfl⟩
theorem YV {P : Program} {orc : Orc} {ok : FuncId → Bool} (horc : VH P orc) (hm : P.follows .mixedOrders = true) (hok : ∀ f, ok f = true → W9 P f = true) (hsm : ∀ f, ok f = true → VC P f = true) (n : Nat) {f : FuncId} {args : List AV} {h h' : AHeap} {r : AV}
    (hc:YM P ok (Zf P orc ok n) f args h=some (r,h')):Ev P f args h r h':=by
 have hc:=R3 hsm (S5 hsm n) hc;unfold YJ at hc;split at hc;rename_i hokf;have hfn:=hok f hokf;unfold W9 at hfn;split at hc;rename_i fn hf;rw[hf] at hfn;simp only[dO,fA] at hfn;split at hc;rename_i body hb;rw[hb] at hfn;split at hc;rename_i hargs;have key:∀ e fr h',Qj P orc ok n fn.ntmps body (Q7 args fn.ntmps) h=some (e,fr,h')→(e = .normal∨e = .ret)→∀ x,X2 P h' fr fn.results.toList=some x→Ev P f args h x h':=by
  intro e fr h' hrun he x hx;obtain⟨_,w⟩:=SY horc hm hok n body _ h e fr h' fn.ntmps hfn.2 (UX hargs) hrun;simp only[X2,dU] at hx;obtain⟨l,hl,rfl⟩:=hx;have:=ACalls.of_bodyH (args:=args) (h:=h) (R:=fun r h1=>r=Xu l∧h1=h') hf hb hfn.1 (w.mono (by
   rintro e1 f1 h1 ⟨rfl,rfl,rfl⟩;exact⟨he,l,hl,rfl,rfl⟩))
  obtain⟨r,h1,hev,rfl,rfl⟩:=this;exact hev
 split at hc;rename_i fr1 h1 hrun;simp only[dU,dX] at hc;obtain⟨x,hx,rfl,rfl⟩:=hc;exact key _ _ _ hrun (.inl rfl) x hx;rename_i fr1 h1 hrun;simp only[dU,dX] at hc;obtain⟨x,hx,rfl,rfl⟩:=hc;exact key _ _ _ hrun (.inr rfl) x hx;cases hc;cases hc;cases hc;cases hc;cases hc
noncomputable def okY (P:Program) (f:FuncId):Bool:=W9 P f && VC P f
end Go.Am
namespace Go.Am
inductive ImG (bs:List ArgB):AV→AV→Prop where
  | plain (x:AV) (h:x.plain=true):ImG bs x x
  | slc (b n:Nat) (p:ArgB) (hb:bs[b]? = some p) (hs : 0<p.s) (hn:p.xs.length=n*p.s):ImG bs p.v (.slc b 0 n p.s false)
  | agg (l l':List AV) (hl:l.length=l'.length) (h:∀ (j:Nat) (x y:AV),l[j]? = some x→l'[j]? = some y→ImG bs x y):ImG bs (.agg l) (.agg l')
structure OkG (h:AHeap) (bs:List ArgB) (p:ArgB):Prop where
  rd:Rd h p.v p.s p.xs
  pos:(0<p.s∧p.xs≠[])∨(p.s=0∧∃ b0,p.v = .ptr b0 0)
  len:p.xs.length=p.ys.length
  im:∀ (j:Nat) (x y:AV),p.xs[j]? = some x→p.ys[j]? = some y→ImG bs x y
theorem ZI {bs:List ArgB}:∀ (j:Nat) (x y:AV),([]:List AV)[j]? = some x→([]:List AV)[j]? = some y→ImG bs x y:=by intro j x y h; cases h
theorem KZ {bs:List ArgB} {x y:AV} {l l':List AV} (h:ImG bs x y) (hl:∀ (j:Nat) (x y:AV),l[j]? = some x→l'[j]? = some y→ImG bs x y):∀ (j:Nat) (u v:AV),(x::l)[j]? = some u→(y::l')[j]? = some v→ImG bs u v:=by
 intro j u v hu hv
 cases j with
 | zero=>simp at hu hv; subst hu hv; exact h
 | succ j=>exact hl j u v (by simpa using hu) (by simpa using hv)
theorem Zu {bs:List ArgB} {b n s:Nat} {v:AV} {xs ys:List AV} (hb:bs[b]? = some ⟨v,s,xs,ys⟩) (hs : 0<s) (hn:xs.length=n*s):ImG bs v (.slc b 0 n s false):=.slc b n ⟨v,s,xs,ys⟩ hb hs hn
theorem J1 {bs:List ArgB} {l:List AV} (h:l.all AV.plain=true):∀ (j:Nat) (x y:AV),l[j]? = some x→l[j]? = some y→ImG bs x y:=by
 intro j x y hx hy;rw[hx] at hy; cases hy;exact .plain x (dP.1 h x (dS hx))
theorem Tu {h:AHeap} {bs:List ArgB} {v:AV} {s:Nat} {xs:List AV} (hr:Rd h v s xs) (hs : 0<s) (hne:xs≠[]) (hp:xs.all AV.plain=true):OkG h bs ⟨v,s,xs,xs⟩:=⟨hr,.inl ⟨hs,hne⟩,rfl,J1 hp⟩
def Js (bs:List ArgB) (gs:List Nat):AHeap:=⟨bs.map fun p=>.cells none 0 p.ys,[],gs⟩
theorem YZ (bs:List ArgB) (gs:List Nat):(Js bs gs).next=bs.length:=by simp[Js,AHeap.next]
theorem ZQ {bs:List ArgB} {gs:List Nat} {b:Nat} {B:Blk} (h:(Js bs gs).get b=some B):∃ p,bs[b]? = some p∧B = .cells none 0 p.ys:=by
 simp only[Js,AHeap.get,dZ,dU] at h;obtain⟨p,h1,h2⟩:=h;exact⟨p,h1,h2.symm⟩
def Vj (φ:Emb) (bs:List ArgB):Emb:=fun b=>match bs[b]? with
  | some p=>match p.v with
    | .slc b0 o _ _ _=>(φ b0).map fun q=>(q.1,q.2.1+o,q.2.2)
    | .ptr b0 _=>φ b0
    | _=>none
  | none=>none
theorem OkG.view {h:AHeap} {bs:List ArgB} {p:ArgB} (ok:OkG h bs p):∃ b0 o F q cs,((∃ n full,p.v = .slc b0 o n p.s full∧p.xs.length=n*p.s∧0<p.s)∨(p.v = .ptr b0 0∧o=0∧p.s=0))∧h.get b0=some (.cells F q cs)∧h.valid b0=true∧(cs.drop o).take p.xs.length=p.xs:=by
 rcases ok.rd with ⟨h1,h2⟩|⟨b,o,F,q,cs,hv,h1,h2,h3⟩|⟨_,_,x,h1,h2,_⟩
 rcases ok.pos with ⟨_,h3⟩|⟨_,b0,h3⟩
 exact absurd h2 h3;rw[h3] at h1; cases h1;rcases hv with ⟨n,full,e1,e2,e3⟩|⟨e,e2⟩
 exact⟨b,o,F,q,cs,.inl ⟨n,full,e1,e2,e3⟩,h1,h2,h3⟩;rcases ok.pos with ⟨h4,_⟩|⟨_,b0,h4⟩
 omega;rw[h4] at e2; cases e2;exact⟨_,0,F,q,cs,.inr ⟨h4,rfl,e⟩,h1,h2,h3⟩;rcases ok.pos with ⟨h4,_⟩|⟨_,b0,h4⟩
 omega;rw[h4] at h1; exact(Thing.at_ptr h1.symm).elim
theorem ImG.rel {h:AHeap} {φ:Emb} {bs:List ArgB} (hok:∀ p∈bs,OkG h bs p) {x y:AV} (hi:ImG bs x y):∀ {u:Value},VRel φ x u→VRel (Vj φ bs) y u:=by
 induction hi with
 | plain x h=>intro u hv; cases hv <;> simp only[AV.plain,dQ] at h <;> first|exact .bool _|exact .int _ _|exact .str _|exact .nilp|exact .nils|exact .nilm|exact .nilf
 | slc b n p hb hs hn=>
  intro u hv;have ok:=hok p (dS hb);obtain⟨b0,o,F,q,cs,⟨n',full,e1,e2,_⟩|⟨_,_,e3⟩,_,_,_⟩:=ok.view
  ·have hnn:n'=n:=Nat.eq_of_mul_eq_mul_right hs (by rw[←e2,hn]);subst hnn;have he:Vj φ bs b=(φ b0).map fun q=>(q.1,q.2.1+o,q.2.2):=by simp only[Vj,hb,e1]
   rw[e1] at hv
   cases hv with
   | slc _ _ _ _ _ a c h1 h2 h3 h4=>
    refine .slc _ _ _ _ _ _ _ h1 h2 (fun h=>by cases h) ?_;rcases h4 with h4|⟨k,i,z,h4,h5,h6⟩
    exact .inl h4;exact .inr ⟨k,i+o,z,by rw[he,h4]; rfl,by rw[h5]; rfl,by omega⟩
  omega
 | agg l l' hl h ih=>
  intro u hv
  cases hv with
  | agg _ cs h1 h2=>
   refine .agg _ _ aA ?_;intro j y c hy hc;have hj:j<l.length:=by have:=(dT.1 hy).1; omega
   exact ih j _ y (dY hj) hy (h2 j _ c (dY hj) hc)
theorem Ti {h:AHeap} {bs:List ArgB} {gs:List Nat} (hok:∀ p∈bs,OkG h bs p) (hg:∀ g∈gs,g∈h.globs∧∃ p,bs[g]? = some p∧p.v = .ptr g 0) {φ:Emb} {w:World} (rr:HRel φ h w):HRel (Vj φ bs) (Js bs gs) w:=by
 have key:∀ b k i z,Vj φ bs b=some (k,i,z)→∃ p b0 o i0 F q cs,bs[b]? = some p∧φ b0=some (k,i0,z)∧i=i0+o∧h.get b0=some (.cells F q cs)∧h.valid b0=true∧(cs.drop o).take p.xs.length=p.xs:=by
  intro b k i z hb;unfold Vj at hb;split at hb;rename_i p hp;obtain⟨b0,o,F,q,cs,⟨n',full,e1,e2,_⟩|⟨e1,e2,_⟩,h1,h2,h3⟩:=(hok p (dS hp)).view;rw[e1] at hb;simp only[dU] at hb;obtain⟨⟨k',i',z'⟩,h4,h5⟩:=hb;cases h5;exact⟨p,b0,o,i',F,q,cs,hp,h4,rfl,h1,h2,h3⟩;rw[e1] at hb;subst e2;exact⟨p,b0,0,i,F,q,cs,hp,hb,rfl,h1,h2,h3⟩;cases hb
 refine⟨?_,?_,?_,?_,?_,?_,?_,?_⟩;intro g hgm;obtain⟨h1,p,h2,h3⟩:=hg g hgm;obtain⟨z,hz⟩:=rr.glob g h1;exact⟨z,by simp only[Vj,h2,h3]; exact hz⟩;intro b k i z hb;obtain⟨p,b0,o,i0,F,q,cs,_,h3,_⟩:=key b k i z hb;exact rr.lt _ _ _ _ h3;intro b k i z B hb hB _;obtain⟨p,b0,o,i0,F,q,cs,h1,h3,rfl,e3,e4,e5⟩:=key b k i z hb;obtain⟨p',h4,rfl⟩:=ZQ hB;rw[h1] at h4; cases h4;have ok:=hok p (dS h1);refine⟨?_,fun h0=>absurd h0 aE⟩;intro j y hy;have hj:j<p.xs.length:=by have:=(dT.1 hy).1; rw[ok.len]; exact this
 have hx:=dY hj;have hcs:cs[o+j]? = some p.xs[j]:=by
  rw[←hx,←e5,List.getElem?_take_of_lt hj,fU]
 obtain⟨u,hu,hru⟩:=(rr.blk b0 k i0 z _ h3 e3 e4).cell hcs;exact⟨u,by rw[←hu,Nat.add_assoc],ImG.rel hok (ok.im j _ y hx hy) hru⟩;intro b k i z F p cs _ hB;obtain⟨_,_,h⟩:=ZQ hB; cases h;intro b b' k i i' z z' F F' p p' cs cs' _ _ hB;obtain⟨_,_,h⟩:=ZQ hB; cases h;intro b b' k i i' z z' F p p' cs cs' _ _ hB;obtain⟨_,_,h⟩:=ZQ hB; cases h;intro b b' k i i' z z' F0 x0 B _ _ hB;obtain⟨_,_,h⟩:=ZQ hB; cases h;intro b F p cs hB;obtain⟨_,_,h⟩:=ZQ hB; cases h
noncomputable def UH (P:Program) (orc:Orc) (n:Nat) (f:FuncId) (args:List AV) (ys:List (List AV)) (gs:List Nat) (test:AV→AHeap→Bool):Bool:=match YM P (okY P) (Zf P orc (okY P) n) f args ⟨ys.map fun y=>.cells none 0 y,[],gs⟩ with|some (r,h)=>test r h|none=>false
noncomputable def XP (P:Program) (n:Nat) (f:FuncId) (args:List AV) (ys:List (List AV)) (gs:List Nat) (test:AV→AHeap→Bool):Bool:=UH P noOrc n f args ys gs test
theorem over_evQ {P : Program} {orc : Orc} (ho : VH P orc) (hm : P.follows .mixedOrders = true) {n : Nat} {f : FuncId} {args args' : List AV} {h : AHeap} (bs : List ArgB) (gs : List Nat) {test : AV → AHeap → Bool} (hok : ∀ p ∈ bs, OkG h bs p) (hg : ∀ g ∈ gs, g ∈ h.globs ∧ ∃ p, bs[g]? = some p ∧ p.v = .ptr g 0) (hl : args.length = args'.length) (hi : ∀ (j : Nat) (x y : AV), args[j]? = some x → args'[j]? = some y → ImG bs x y)
    (hr:UH P orc n f args' (bs.map ArgB.ys) gs test=true):∃ r h1,test r h1=true∧Ev P f args h (AV.shm bs.length h.next 4 r) (h.frozm bs.length h1):=by
 unfold UH at hr;split at hr;rename_i r h1 hc;rw[List.map_map] at hc;have hev:Ev P f args' (Js bs gs) r h1:=YV (ok:=okY P) ho hm am al n hc;refine⟨r,h1,hr,?_⟩;have:=hev.over (args:=args) (fun b B hB=>by obtain⟨p,_,h2⟩:=ZQ hB; exact⟨0,_,h2⟩) h (fun φ w cs rr ha=>⟨Vj φ bs,?_,Ti hok hg rr,by have:=ha.1; omega,?_⟩);rwa [YZ] at this;intro b hb;rw[YZ] at hb;simp only[Vj,List.getElem?_eq_none hb];intro j y c hy hc';have hj:j<args.length:=by have:=(dT.1 hy).1; omega
 exact ImG.rel hok (hi j _ y (dY hj) hy) (ha.2 j _ c (dY hj) hc');cases hr
theorem over_evG {P : Program} (hm : P.follows .mixedOrders = true) {n : Nat} {f : FuncId} {args args' : List AV} {h : AHeap} (bs : List ArgB) (gs : List Nat) {test : AV → AHeap → Bool} (hok : ∀ p ∈ bs, OkG h bs p) (hg : ∀ g ∈ gs, g ∈ h.globs ∧ ∃ p, bs[g]? = some p ∧ p.v = .ptr g 0) (hl : args.length = args'.length) (hi : ∀ (j : Nat) (x y : AV), args[j]? = some x → args'[j]? = some y → ImG bs x y)
    (hr:XP P n f args' (bs.map ArgB.ys) gs test=true):∃ r h1,test r h1=true∧Ev P f args h (AV.shm bs.length h.next 4 r) (h.frozm bs.length h1):=over_evQ Jx hm bs gs hok hg hl hi hr
theorem ZA {P : Program} (hm : P.follows .mixedOrders = true) (n : Nat) {f : FuncId} {args : List AV} (args' : List AV) {h : AHeap} (bs : List ArgB) (gs : List Nat) {R : AV} (hok : ∀ p ∈ bs, OkG h bs p) (hg : ∀ g ∈ gs, g ∈ h.globs ∧ ∃ p, bs[g]? = some p ∧ p.v = .ptr g 0) (hl : args.length = args'.length) (hi : ∀ (j : Nat) (x y : AV), args[j]? = some x → args'[j]? = some y → ImG bs x y)
    (hr:XP P n f args' (bs.map ArgB.ys) gs (fun r _=>AV.isP 3 r R)=true) (hR:∀ m d,AV.shm m d 4 R=R):ACalls P f args h (fun q h'=>q=R∧Keeps h h'):=by
 obtain⟨r,h1,ht,he⟩:=over_evG hm bs gs hok hg hl hi hr;refine⟨_,_,he,?_,UR _ _ _⟩;rw[AV.isP_eq 3 _ _ ht,hR]
theorem Xt {h:AHeap} {bs:List ArgB}:∀ p∈([]:List ArgB),OkG h bs p:=fun p hp=>by cases hp
theorem QO {h:AHeap} {bs l:List ArgB} {p:ArgB} (h1:OkG h bs p) (h2:∀ q∈l,OkG h bs q):∀ q∈p::l,OkG h bs q:=fun q hq=>by
  rcases List.mem_cons.1 hq with rfl|hq
  · exact h1
  · exact h2 q hq
theorem XD {h:AHeap} {bs:List ArgB}:∀ g∈([]:List Nat),g∈h.globs∧∃ p,bs[g]? = some p∧p.v = .ptr g 0:=fun g hg=>by cases hg
end Go.Am
namespace Go.Am
theorem VR {m d n:Nat} {x:AV} (h:x.plain=true):AV.shm m d n x=x:=by
 cases x <;> simp only[AV.plain,dQ] at h <;> cases n <;> rfl
end Go.Am
namespace Go.Am
def small (m:Int) (l:List Int):Prop:=∀ j,-m≤l.getD j 0∧l.getD j 0≤m
end Go.Am
namespace Go.Am
def pos (n s i:Nat):Nat:=(i+s) % n
end Go.Am
namespace Go.Am
section
variable {P:Program} {n:Nat} {ops:Array Oper} {ex:List Nat} {Q:KF→AHeap→Prop} {k:Nat} {os:List Oper} {K:KF} {h h0:AHeap} {d:Nat} {ty:TypeId} {pos:String} {after:Array Edge} {objs:List Obj}
theorem KOps.sAt {t : TypeId} {x ix : Operand} {s : ByteArray} {kd : IntKind} {i : Int} {j : Nat} [hx : EvK h.globs n K x (.str s)] [hi : EvK h.globs n K ix (.int kd i)] [ht : StT P t] (hj : i = (j : Int)) (hlt : j < s.size) (hk : KOps P n ops ex Q (k + 1) os ((d, .int .u8 ((s.get! j).toNat : Int)) :: K) h) :
    KOps P n ops ex Q k (⟨some d,.index t x ix,ty,pos,after,none⟩::os) K h:=by
 subst hj;refine O9 rfl (v:=.int .u8 ((s.get! j).toNat:Int)) ?_ hk;simp only[apure,hx.eq,hi.eq,Wt,ht.st,Int.toNat_natCast];rw[if_pos ⟨trivial,by omega⟩,getElem?_pos s j hlt];have h2:s.get! j=s[j]'hlt:=by
  show s.data[j]! = s.data[j]'hlt;rw[getElem!_pos _ j hlt]
 rw[h2]; rfl
end
end Go.Am
namespace Go.Am
structure W where
  f:Int
  t:Int
  l:Int
  m:Int
  deriving DecidableEq,Inhabited
abbrev wc (w:W):List AV:=[.int .i64 w.f,.int .i64 w.t,.int .i64 w.l,.int .i64 w.m]
theorem KM (w:W):(wc w).length=4:=rfl
def Qa (r:Int) (w:W):Int:=
  if ¬ (0≤w.f∧w.f<r∧0≤w.t∧w.t<r) then 2 else if w.f=w.t then 13 else if ¬ (0≤w.l∧w.l≤w.m∧w.m≤99) then 1 else 0
def QS (r : Int) (ws : List W) : Nat → Int
  | 0=>0
  | i+1=>if QS r ws i=0 then Qa r (ws.getD i default) else QS r ws i
def KX (r:Int) (ws:List W):Int:=if ¬ (2≤r∧r≤6) then 1 else if 12<ws.length then 3 else QS r ws ws.length
theorem waysE_zero {r:Int} {ws:List W}:∀ {n i:Nat},i≤n→QS r ws n=0→QS r ws i=0:=by
 intro n
 induction n with
 | zero => intro i hi h; obtain rfl : i = 0 := by omega
           exact h
 | succ n ih=>
  intro i hi h;have h1:QS r ws n=0:=by
   rw[QS] at h;by_cases h2:QS r ws n=0;exact h2;rw[if_neg h2] at h; exact h
  rcases Nat.lt_or_eq_of_le hi with h3|rfl
  exact ih aA h1;exact h
theorem Ro {r:Int} {ws:List W} {i:Nat} (h0:QS r ws i=0) (he:Qa r (ws.getD i default)≠0):∀ {n:Nat},i<n→QS r ws n=Qa r (ws.getD i default):=by
 intro n
 induction n with
 | zero=>intro h; omega
 | succ n ih=>
  intro h;rcases Nat.lt_succ_iff_lt_or_eq.1 h with h1|rfl
  rw[QS,ih h1,if_neg he];rw[QS,if_pos h0]
theorem waysE_all {r:Int} {ws:List W} {n:Nat} (h:QS r ws n=0) {i:Nat} (hi:i<n):Qa r (ws.getD i default)=0:=by
 have h1:=waysE_zero (show i≤n by omega) h;by_cases h2:Qa r (ws.getD i default)=0;exact h2;rw[Ro h1 h2 hi] at h; exact absurd h h2
structure WOk (r:Int) (w:W):Prop where
  f0 : 0≤w.f
  f1:w.f<r
  t0 : 0≤w.t
  t1:w.t<r
  ne:w.f≠w.t
  l0 : 0≤w.l
  lm:w.l≤w.m
  m1:w.m≤99
theorem WOk.of {r:Int} {w:W} (h:Qa r w=0):WOk r w:=by
 unfold Qa at h;by_cases h1:¬ (0≤w.f∧w.f<r∧0≤w.t∧w.t<r);rw[if_pos h1] at h; cases h;rw[if_neg h1] at h;by_cases h2:w.f=w.t;rw[if_pos h2] at h; cases h;rw[if_neg h2] at h;by_cases h3:¬ (0≤w.l∧w.l≤w.m∧w.m≤99);rw[if_pos h3] at h; cases h;have h1:=dR.1 h1;have h3:=dR.1 h3;exact⟨h1.1,h1.2.1,h1.2.2.1,h1.2.2.2,h2,h3.1,h3.2.1,h3.2.2⟩
structure BOk (r:Int) (ws:List W):Prop where
  r2 : 2≤r
  r6:r≤6
  len:ws.length≤12
  way:∀ i,i<ws.length→WOk r (ws.getD i default)
theorem BOk.of {r:Int} {ws:List W} (h:KX r ws=0):BOk r ws:=by
 unfold KX at h;by_cases h1:¬ (2≤r∧r≤6);rw[if_pos h1] at h; cases h;rw[if_neg h1] at h;by_cases h2 : 12<ws.length;rw[if_pos h2] at h; cases h;rw[if_neg h2] at h;have h1:=dR.1 h1;exact⟨h1.1,h1.2,by omega,fun i hi=>WOk.of (waysE_all h hi)⟩
end Go.Am
namespace Go.Am
theorem K6 {r e:Int} {ws:List W} {i:Nat} (h1 : 2≤r∧r≤6) (h2:ws.length≤12) (h0:QS r ws i=0) (hi:i<ws.length) (he:Qa r (ws.getD i default)=e) (hne:e≠0):KX r ws=e:=by
 unfold KX;rw[if_neg (dR.2 h1),if_neg aA,Ro h0 (by rw[he]; exact hne) hi,he]
theorem XA {r:Int} {ws:List W} (h1 : 2≤r∧r≤6) (h2:ws.length≤12) (h0:QS r ws ws.length=0):KX r ws=0:=by
 unfold KX;rw[if_neg (dR.2 h1),if_neg aA,h0]
theorem R4 {h:AHeap} {a b c:Int}:ACalls Go.Proofs.Tryz.prog 115 [.int .i64 a,.int .i64 b,.int .i64 c] h (fun q h'=>q = .bool (decide (a≤b∧b≤c))∧h=h'):=by
 refine OK 15 [.tmp 6] Go.Proofs.Tryz.func115 rfl aE rfl rfl (fI rfl) ?_;show KA _ 15 _ _ [(0,.int .i64 a),(1,.int .i64 b),(2,.int .i64 c)] _;refine Oa [0,1,2] ?_;refine Oc ?_;refine Ov (dj:=10) rfl rfl true false rfl ?_ ?_;intro g10;have g10:=of_decide_eq_true g10;refine Oa [6] ?_;refine Oi ?_;exact⟨congrArg AV.bool (decide_eq_decide.2 aA),rfl⟩;intro g10;have g10:=of_decide_eq_false g10;refine Oa [6] ?_;refine Oi ?_;exact⟨congrArg AV.bool (decide_eq_false aA).symm,rfl⟩
theorem check_c {h:AHeap} {rm:Int} {vW:AV} {ws:List W} (hv:Rd h vW 4 (flr wc ws)):ACalls Go.Proofs.Tryz.prog 76 [.agg [.int .i64 rm,vW]] h (fun q h'=>q = .int .i64 (KX rm ws)∧Keeps h h'):=by
 refine OK 62 [.tmp 2] Go.Proofs.Tryz.func76 rfl aE rfl rfl (fI rfl) ?_;have hS:=St.refl h;have hvo:vW.one=true:=hv.one;show KA _ 62 _ _ [(0,.agg [.int .i64 rm,vW])] _;refine be ?_;intro p1 h' hp1 hS;refine Oa [1] ?_;refine cd ?_;refine Ob hp1 ?_;intro p6 hp6;refine Of hp6 (hS.rd 0 rfl) rfl ?_;refine Oo rfl (R4) ?_;rintro _ _ ⟨rfl,rfl⟩;refine Oa [1,5] ?_;refine Kk ?_ ?_;intro c5;refine bY ?_
 first|exact⟨congrArg (AV.int .i64) ae,hS.keeps⟩|exact⟨congrArg (AV.int .i64) aW,hS.keeps⟩|exact⟨congrArg (AV.int .i64) (K6 (e:=2) aA aA hw aA aX aE).symm,hS.keeps⟩|exact⟨congrArg (AV.int .i64) (K6 (e:=13) aA aA hw aA aS aE).symm,hS.keeps⟩|exact⟨congrArg (AV.int .i64) (K6 (e:=1) aA aA hw aA aQ aE).symm,hS.keeps⟩|exact⟨congrArg (AV.int .i64) (XA aA aA aR).symm,hS.keeps⟩
 ·intro c5;refine Ot ?_;refine Ob hp1 ?_;intro p11 hp11;refine Of hp11 (hS.rd 0 rfl) rfl ?_;refine Qk KM (Rd.ext hS.keeps hv) ?_;refine Oa [1,10] ?_;refine On ?_ ?_;intro c10;refine bY ?_
  first|exact⟨congrArg (AV.int .i64) ae,hS.keeps⟩|exact⟨congrArg (AV.int .i64) aW,hS.keeps⟩|exact⟨congrArg (AV.int .i64) (K6 (e:=2) aA aA hw aA aX aE).symm,hS.keeps⟩|exact⟨congrArg (AV.int .i64) (K6 (e:=13) aA aA hw aA aS aE).symm,hS.keeps⟩|exact⟨congrArg (AV.int .i64) (K6 (e:=1) aA aA hw aA aQ aE).symm,hS.keeps⟩|exact⟨congrArg (AV.int .i64) (XA aA aA aR).symm,hS.keeps⟩
  ·intro c10;refine bd ?_;refine Ow [1] ?_;refine bt ?_;refine Ob hp1 ?_;intro p15 hp15;refine Of hp15 (hS.rd 0 rfl) rfl ?_;refine Qk KM (Rd.ext hS.keeps hv) ?_;refine Oa [1,16,17,18] ?_;refine Oz ?_;refine Kd (X:=Nat) (fun i=>[(1,p1),(16,vW),(17,.int .i64 (ws.length:Int)),(18,.int .i64 (i:Int))]) (fun i h'=>i≤ws.length∧QS rm ws i=0∧St h h' [⟨p1,0,[.int .i64 rm,vW],true⟩]) (fun i=>ws.length - i) 0 ?_ ?_;exact⟨Nat.zero_le _,rfl,hS⟩;rintro i h2 ⟨hi,hw,hS⟩;refine bg ?_;refine On ?_ ?_
   ·intro c19;refine OD [1,16,17,18] ?_;refine cd ?_;refine Ql KM (Rd.ext hS.keeps hv) (j:=i) rfl aF ?_;intro p20 hp20;refine Qv KM aE hp20 (Rd.ext hS.keeps hv) aF ?_;refine O6 hS ?_;intro p4 h' hp4 hS;refine O8 hS rfl (i:=0) rfl hp4 aD aI aI aE ?_;intro h' hS;simp only[List.set_cons_zero,List.set_cons_succ,Nat.zero_add] at hS;refine Oj [1,4,16,17,18] ?_;refine Oz ?_;refine Ot ?_;refine Ob hp4 ?_;intro p23 hp23;refine Of hp23 (hS.rd 0 rfl) rfl ?_;refine Ob hp4 ?_;intro p25 hp25;refine Of hp25 (hS.rd 0 rfl) rfl ?_;refine KOps.min ?_;refine Oc ?_;refine Ov (dj:=29) rfl rfl false true rfl ?_ ?_;intro g29;have g29:=of_decide_eq_false g29;refine Ob hp4 ?_;intro p30 hp30;refine Oh (dj:=29) rfl rfl ?_;refine Of hp30 (hS.rd 0 rfl) rfl ?_;refine Oh (dj:=29) rfl rfl ?_;refine Ob hp4 ?_;intro p32 hp32;refine Oh (dj:=29) rfl rfl ?_;refine Of hp32 (hS.rd 0 rfl) rfl ?_;refine Oh (dj:=29) rfl rfl ?_;refine KOps.max ?_;refine Oh (dj:=29) rfl rfl ?_;refine Ob hp1 ?_;intro p35 hp35;refine Oh (dj:=29) rfl rfl ?_;refine Of hp35 (hS.rd 1 rfl) rfl ?_;refine Oa [1,4,16,17,18,22,30,31,32,33,34,35,36,37] ?_;refine On ?_ ?_;intro c22;refine bY ?_
    first|exact⟨congrArg (AV.int .i64) ae,hS.keeps⟩|exact⟨congrArg (AV.int .i64) aW,hS.keeps⟩|exact⟨congrArg (AV.int .i64) (K6 (e:=2) aA aA hw aA aX aE).symm,hS.keeps⟩|exact⟨congrArg (AV.int .i64) (K6 (e:=13) aA aA hw aA aS aE).symm,hS.keeps⟩|exact⟨congrArg (AV.int .i64) (K6 (e:=1) aA aA hw aA aQ aE).symm,hS.keeps⟩|exact⟨congrArg (AV.int .i64) (XA aA aA aR).symm,hS.keeps⟩
    intro c22;refine Ot ?_;refine Ob hp4 ?_;intro p40 hp40;refine Of hp40 (hS.rd 0 rfl) rfl ?_;refine Ob hp4 ?_;intro p42 hp42;refine Of hp42 (hS.rd 0 rfl) rfl ?_;refine Oa [1,4,16,17,18,30,31,32,33,34,35,36,37,39] ?_;refine On ?_ ?_;intro c39;refine bY ?_
    first|exact⟨congrArg (AV.int .i64) ae,hS.keeps⟩|exact⟨congrArg (AV.int .i64) aW,hS.keeps⟩|exact⟨congrArg (AV.int .i64) (K6 (e:=2) aA aA hw aA aX aE).symm,hS.keeps⟩|exact⟨congrArg (AV.int .i64) (K6 (e:=13) aA aA hw aA aS aE).symm,hS.keeps⟩|exact⟨congrArg (AV.int .i64) (K6 (e:=1) aA aA hw aA aQ aE).symm,hS.keeps⟩|exact⟨congrArg (AV.int .i64) (XA aA aA aR).symm,hS.keeps⟩
    intro c39;refine Ot ?_;refine Ob hp4 ?_;intro p46 hp46;refine Of hp46 (hS.rd 0 rfl) rfl ?_;refine Oc ?_;refine Ov (dj:=49) rfl rfl false true rfl ?_ ?_;intro g49;have g49:=of_decide_eq_false g49;refine Ob hp4 ?_;intro p50 hp50;refine Oh (dj:=49) rfl rfl ?_;refine Of hp50 (hS.rd 0 rfl) rfl ?_;refine Oc ?_;refine Ov (dj:=54) rfl rfl false true rfl ?_ ?_;intro g54;have g54:=of_decide_eq_false g54;refine Ob hp4 ?_;intro p55 hp55;refine Oh (dj:=54) rfl rfl ?_;refine Of hp55 (hS.rd 0 rfl) rfl ?_;refine Oh (dj:=54) rfl rfl ?_;refine Ob hp4 ?_;intro p57 hp57;refine Oh (dj:=54) rfl rfl ?_;refine Of hp57 (hS.rd 0 rfl) rfl ?_;refine Oa [1,16,17,18,30,31,32,33,34,35,36,37,45,50,51,52,55,56,57,58,59] ?_;refine On ?_ ?_;intro c45;refine bY ?_
    first|exact⟨congrArg (AV.int .i64) ae,hS.keeps⟩|exact⟨congrArg (AV.int .i64) aW,hS.keeps⟩|exact⟨congrArg (AV.int .i64) (K6 (e:=2) aA aA hw aA aX aE).symm,hS.keeps⟩|exact⟨congrArg (AV.int .i64) (K6 (e:=13) aA aA hw aA aS aE).symm,hS.keeps⟩|exact⟨congrArg (AV.int .i64) (K6 (e:=1) aA aA hw aA aQ aE).symm,hS.keeps⟩|exact⟨congrArg (AV.int .i64) (XA aA aA aR).symm,hS.keeps⟩
    intro c45;refine cG ?_;refine Ol ?_;refine Od ?_;refine Ow [1,16,17,18,30,31,32,33,34,35,36,37,50,51,52,55,56,57,58,59] ?_;refine bX ?_;refine lpN (i+1) ⟨by omega,?_,St.tail hS⟩ aA;rw[QS,if_pos hw];unfold Qa;rw[if_neg aA,if_neg aA,if_neg aA];intro g54;have g54:=of_decide_eq_true g54;refine Oa [1,16,17,18,30,31,32,33,34,35,36,37,45,50,51,52,55,56,57,58,59] ?_;refine KW ?_;refine bY ?_
    first|exact⟨congrArg (AV.int .i64) ae,hS.keeps⟩|exact⟨congrArg (AV.int .i64) aW,hS.keeps⟩|exact⟨congrArg (AV.int .i64) (K6 (e:=2) aA aA hw aA aX aE).symm,hS.keeps⟩|exact⟨congrArg (AV.int .i64) (K6 (e:=13) aA aA hw aA aS aE).symm,hS.keeps⟩|exact⟨congrArg (AV.int .i64) (K6 (e:=1) aA aA hw aA aQ aE).symm,hS.keeps⟩|exact⟨congrArg (AV.int .i64) (XA aA aA aR).symm,hS.keeps⟩
    intro g49;have g49:=of_decide_eq_true g49;refine Oa [1,16,17,18,30,31,32,33,34,35,36,37,45,50,51,52,55,56,57,58,59] ?_;refine KW ?_;refine bY ?_
    first|exact⟨congrArg (AV.int .i64) ae,hS.keeps⟩|exact⟨congrArg (AV.int .i64) aW,hS.keeps⟩|exact⟨congrArg (AV.int .i64) (K6 (e:=2) aA aA hw aA aX aE).symm,hS.keeps⟩|exact⟨congrArg (AV.int .i64) (K6 (e:=13) aA aA hw aA aS aE).symm,hS.keeps⟩|exact⟨congrArg (AV.int .i64) (K6 (e:=1) aA aA hw aA aQ aE).symm,hS.keeps⟩|exact⟨congrArg (AV.int .i64) (XA aA aA aR).symm,hS.keeps⟩
    intro g29;have g29:=of_decide_eq_true g29;refine Oa [1,4,16,17,18,22,30,31,32,33,34,35,36,37] ?_;refine KW ?_;refine bY ?_
    first|exact⟨congrArg (AV.int .i64) ae,hS.keeps⟩|exact⟨congrArg (AV.int .i64) aW,hS.keeps⟩|exact⟨congrArg (AV.int .i64) (K6 (e:=2) aA aA hw aA aX aE).symm,hS.keeps⟩|exact⟨congrArg (AV.int .i64) (K6 (e:=13) aA aA hw aA aS aE).symm,hS.keeps⟩|exact⟨congrArg (AV.int .i64) (K6 (e:=1) aA aA hw aA aQ aE).symm,hS.keeps⟩|exact⟨congrArg (AV.int .i64) (XA aA aA aR).symm,hS.keeps⟩
   intro c19;refine bx ?_
   first|exact⟨congrArg (AV.int .i64) ae,hS.keeps⟩|exact⟨congrArg (AV.int .i64) aW,hS.keeps⟩|exact⟨congrArg (AV.int .i64) (K6 (e:=2) aA aA hw aA aX aE).symm,hS.keeps⟩|exact⟨congrArg (AV.int .i64) (K6 (e:=13) aA aA hw aA aS aE).symm,hS.keeps⟩|exact⟨congrArg (AV.int .i64) (K6 (e:=1) aA aA hw aA aQ aE).symm,hS.keeps⟩|exact⟨congrArg (AV.int .i64) (XA aA aA aR).symm,hS.keeps⟩
end Go.Am
