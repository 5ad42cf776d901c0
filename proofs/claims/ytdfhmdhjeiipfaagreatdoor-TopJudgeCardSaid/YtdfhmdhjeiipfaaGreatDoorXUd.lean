/-
  The abstract machine: what a call lays down for itself stays owned.
  Conditions: none.
-/
import Derived.Test.YtdfhmdhjeiipfaaGreatDoorSCa
import Derived.Test.YtdfhmdhjeiipfaaGreatDoorCvf
import Derived.Test.YtdfhmdhjeiipfaaGreatDoorAmL
import Derived.Test.YtdfhmdhjeiipfaaGreatDoorAmU
open Array renaming getElem?_toList → fC
open Bool renaming and_eq_true → dO
open List renaming all_eq_true → dP, getElem?_append_right → dS, getElem?_eq_getElem → dV, nil_append → fA, getElem?_map → fE, range → fI, getElem?_append_left → fU, getElem?_eq_some_iff → fY, mem_of_getElem? → fF, length_map → fK, contains_iff_mem → fM, mem_range → fN, append_assoc → fW, cons_append → gE, mem_filter → gI
open Nat renaming le_of_ble_eq_true → dY, lt_or_eq_of_le → dQ, eq_of_beq_eq_true → dR, pow_le_pow_right → dT, add_sub_cancel_left → dW, lt_of_lt_of_le → dX, two_pow_pos → dZ, zero_le → fO, le_refl → fB, testBit_two_pow_sub_one → fG, mul_lt_mul_of_pos_right → fH, testBit_lt_two_pow → fL, testBit_or → fP, mul_le_mul → fQ, zero_add → fR, add_sub_cancel → fS, beq → fT, or_lt_two_pow → fV, add_mul → fX, le_add_right → fZ, shiftLeft_eq → gA, div_add_mod → gO, strongRecOn → gU
open Option renaming map_eq_some_iff → dU, map_some → fD, isSome_iff_exists → fJ
set_option maxRecDepth 99999
set_option maxHeartbeats 4000000
namespace Go.Am
def Fam.shf (m d:Nat) (f:Fam):Fam:=⟨f.ext,f.live.map fun l=>(l.filter fun b=>decide (m≤b)).map fun b=>d+(b - m)⟩
theorem Fam.shf_sees {m d q:Nat} (f:Fam):(f.shf m d).sees (d+q)=f.sees (m+q):=by
 unfold Fam.sees Fam.shf
 cases f.live with
 | none=>rfl
 | some l=>
  simp only[fD];rw[Bool.eq_iff_iff,fM,fM,List.mem_map];constructor;rintro⟨b,hb,e⟩;rw[gI,decide_eq_true_iff] at hb;rw[show m+q=b by omega]; exact hb.1;intro h;exact⟨m+q,gI.2 ⟨h,decide_eq_true aA⟩,by omega⟩
def frozBo (h1 : AHeap) (m d e : Nat) : Blk → Blk
  | .cells none _ cs=>.cells none 0 (cs.map (AV.shm m d 4))
  | .cells (some F) p cs=>.cells (some (e+F)) p (cs.map (AV.shm m d 4))
  | .obj _ _=>.cells none 0 []
def AHeap.frozo (h:AHeap) (m:Nat) (h1:AHeap):AHeap:=⟨h.blks ++ (h1.blks.map (frozBo h1 m h.next h.nfam)).drop m,h.fams ++ h1.fams.map (Fam.shf m h.next),h.globs⟩
theorem Ya (h:AHeap) (m:Nat) (h1:AHeap):(h.frozo m h1).next=h.next+(h1.next - m):=by simp[AHeap.frozo,AHeap.next]
theorem Xo (h:AHeap) (m:Nat) (h1:AHeap) {b:Nat} (hb:b<h.next):(h.frozo m h1).get b=h.get b:=fU hb
theorem XY (h:AHeap) (m:Nat) (h1:AHeap) (b:Nat):(h.frozo m h1).get (h.next+b)=(h1.get (m+b)).map (frozBo h1 m h.next h.nfam):=by
 simp only[AHeap.frozo,AHeap.get,AHeap.next];rw[dS aA,dW,List.getElem?_drop,fE]
theorem Vm (h:AHeap) (m:Nat) (h1:AHeap) {F:Nat} (hF:F<h.nfam):(h.frozo m h1).fam F=h.fam F:=fU hF
theorem Vl (h:AHeap) (m:Nat) (h1:AHeap) (F:Nat):(h.frozo m h1).fam (h.nfam+F)=(h1.fam F).map (Fam.shf m h.next):=by
 simp only[AHeap.frozo,AHeap.fam,AHeap.nfam];rw[dS aA,dW,fE]
theorem V0 (h:AHeap) (m:Nat) (h1:AHeap):Keeps h (h.frozo m h1):=⟨by rw[Ya]; omega,by simp[AHeap.frozo,AHeap.nfam],rfl,fun b hb=>Xo h m h1 hb,fun F hF=>Vm h m h1 hF⟩
theorem Pb {h:AHeap} {m:Nat} {h1:AHeap} {q F p:Nat} {cs:List AV} (hC:h1.get (m+q)=some (.cells (some F) p cs)):(h.frozo m h1).valid (h.next+q)=h1.valid (m+q):=by
 simp only[AHeap.valid,XY,hC,fD,frozBo,Vl]
 cases h1.fam F with
 | none=>rfl
 | some f=>simp only[fD]; exact f.shf_sees
theorem Ev.overO {P : Program} {f : FuncId} {args args' : List AV} {r : AV} {hA h1 : AHeap} (he : Ev P f args' hA r h1) (hro : ∀ b B, hA.get b = some B → ∃ p cs, B = .cells none p cs) (h : AHeap)
    (hrel:∀ φ w cs,HRel φ h w→VRels φ args cs→∃ φA,(∀ b,hA.next≤b→φA b=none)∧HRel φA hA w∧VRels φA args' cs):Ev P f args h (AV.shm hA.next h.next 4 r) (h.frozo hA.next h1):=by
 obtain⟨hrun,hgrow,hev⟩:=he;have hm:hA.next≤h1.next:=hgrow.next;generalize hmm:hA.next=m at *;refine⟨hrun,⟨(V0 h m h1).next,(V0 h m h1).nfam,rfl,fun b hb=>by rw[Xo h m h1 hb]⟩,?_⟩;intro φ w cs hfr rr ha;obtain⟨φA,hfA,hrA,hvA⟩:=hrel φ w cs rr ha;refine(hev φA w cs (fun b h1 _=>hfA b aA) hrA hvA).mono ?_;rintro e w' ⟨v,φ',rfl,t,r',hv⟩;have hk:∀ k,k<w.heap.size→w'.heap[k]? = w.heap[k]?:=fun k hk=>t.frame k hk (by
  rintro⟨b,i,z,hb,⟨F,p,cs,hm⟩|⟨F,x,hm⟩⟩;obtain⟨_,_,h2⟩:=hro _ _ hm; cases h2;obtain⟨_,_,h2⟩:=hro _ _ hm; cases h2)
 have himg:∀ b k i z,m≤b→φ' b=some (k,i,z)→w.heap.size≤k:=by
  intro b k i z hmb hb;rcases t.img b k i z (hfA b hmb) hb with h2|⟨_,_,_,_,_,_,h2,h3⟩
  exact h2;obtain⟨_,_,h4⟩:=hro _ _ h3; cases h4
 have hdom:∀ b p,m≤b→φ' b=some p→b<h1.next:=fun b p hmb hb=>(t.new b p (hfA b hmb) hb).2
 let ψ:Emb:=fun b=>if h.next≤b∧b<h.next+(h1.next - m) then φ' (m+(b - h.next)) else φ b
 have hψ:∀ b p,ψ b=some p→(h.next≤b∧φ' (m+(b - h.next))=some p)∨(¬ (h.next≤b∧b<h.next+(h1.next - m))∧φ b=some p):=by
  intro b p hb;by_cases hc:h.next≤b∧b<h.next+(h1.next - m);simp only[ψ,if_pos hc] at hb; exact .inl ⟨hc.1,hb⟩;simp only[ψ,if_neg hc] at hb; exact .inr ⟨hc,hb⟩
 have hnew:∀ b p,m≤b→φ' b=some p→ψ (h.next+(b - m))=some p:=by
  intro b p hmb hb;have:=hdom b p hmb hb;simp only[ψ];rw[if_pos ⟨by omega,by omega⟩,dW,show m+(b - m)=b by omega]; exact hb
 have hle : φ.le ψ:=by
  intro b p hb;have:¬ (h.next≤b∧b<h.next+(h1.next - m)):=by
   rintro⟨c1,c2⟩;have:=hfr b c1 (by rw[Ya]; exact c2);rw[hb] at this; cases this
  simp only[ψ,if_neg this]; exact hb
 have hold:∀ b B,¬ (h.next≤b∧b<h.next+(h1.next - m))→(h.frozo m h1).get b=some B→b<h.next∧h.get b=some B:=by
  intro b B hc hB;have h2:=AHeap.get_lt hB;rw[Ya] at h2;have h3:b<h.next:=by omega
  rw[Xo h m h1 h3] at hB;exact⟨h3,hB⟩
 have hfm:∀ b F p cs',(h.frozo m h1).get b=some (.cells (some F) p cs')→(b<h.next∧h.get b=some (.cells (some F) p cs'))∨∃ q F1 c1,b=h.next+q∧h1.get (m+q)=some (.cells (some F1) p c1)∧F=h.nfam+F1∧cs'=c1.map (AV.shm m h.next 4):=by
  intro b F p cs' hB;by_cases hb:b<h.next;rw[Xo h m h1 hb] at hB; exact .inl ⟨hb,hB⟩
  ·obtain⟨q,rfl⟩:∃ q,b=h.next+q:=⟨b - h.next,by omega⟩;rw[XY,dU] at hB;obtain⟨C,hC,hB⟩:=hB
   cases C with
   | obj _ _=>cases hB
   | cells F2 p2 c2=>
    cases F2 with
    | none=>cases hB
    | some F2=>cases hB; exact .inr ⟨q,F2,c2,rfl,hC,rfl,rfl⟩
 have hψq:∀ q p,h1.get (m+q)≠none→ψ (h.next+q)=some p→φ' (m+q)=some p:=by
  intro q p hC hb;rcases hψ _ _ hb with ⟨_,h5⟩|⟨h4,_⟩
  rwa [dW] at h5
  ·refine absurd ⟨by omega,?_⟩ h4
   cases hg:h1.get (m+q) with
   | none=>exact absurd hg hC
   | some B=>have:=AHeap.get_lt hg; omega
 have hom:∀ b F x,(h.frozo m h1).get b=some (.obj F x)→b<h.next∧h.get b=some (.obj F x):=by
  intro b F x hB;by_cases hb:b<h.next;rw[Xo h m h1 hb] at hB; exact⟨hb,hB⟩
  ·obtain⟨q,rfl⟩:∃ q,b=h.next+q:=⟨b - h.next,by omega⟩;rw[XY,dU] at hB;obtain⟨C,_,hB⟩:=hB
   cases C with
   | obj _ _=>cases hB
   | cells F2 p2 c2=>cases F2 <;> cases hB
 have hψold:∀ b p,b<h.next→ψ b=some p→φ b=some p:=by
  intro b p hb h2;rcases hψ b p h2 with ⟨h3,_⟩|⟨_,h3⟩
  omega;exact h3
 refine⟨v,ψ,rfl,⟨hle,?_,?_,?_,fun k hk' _=>hk k hk',t.os,t.tape,t.output,t.size⟩,?_,AV.shm_rel hnew 4 r v hv⟩;intro b h2 h3;rw[Ya] at h3;obtain⟨p,hp⟩:=t.dom (m+(b - h.next)) aA aA;refine⟨p,?_⟩;have:=hnew _ _ aA hp;rwa [show h.next+(m+(b - h.next) - m)=b by omega] at this;intro b p h2 h3;rw[Ya];rcases hψ b p h3 with ⟨h4,h5⟩|⟨_,h4⟩
 have:=hdom _ _ aA h5; omega;rw[h2] at h4; cases h4;intro b k i z h2 h3;rcases hψ b _ h3 with ⟨h4,h5⟩|⟨_,h4⟩
 exact .inl (himg _ _ _ _ aA h5);rw[h2] at h4; cases h4;refine⟨?_,?_,?_,?_,?_,?_,?_,?_⟩;intro g hg;obtain⟨z,hz⟩:=rr.glob g hg;exact⟨z,hle _ _ hz⟩;intro b k i z hb;rcases hψ b _ hb with ⟨_,h5⟩|⟨_,h4⟩
 exact r'.lt _ _ _ _ h5;exact dX (rr.lt b k i z h4) t.size
 ·intro b k i z B hb hB hvd;by_cases hlt:b<h.next
  ·have hb':=hψold b _ hlt hb;rw[Xo h m h1 hlt] at hB;refine((rr.blk b k i z B hb' hB ?_).world (hk k (rr.lt b k i z hb'))).mono hle;unfold AHeap.valid at hvd⊢;rw[Xo h m h1 hlt,hB] at hvd;rw[hB]
   cases B with
   | obj _ _=>rfl
   | cells F p cs'=>
    cases F with
    | none=>rfl
    | some F=>
     simp only at hvd⊢;obtain⟨f,hf,_⟩:=rr.ext b F p cs' hB;rw[Vm h m h1 (AHeap.fam_lt hf)] at hvd;exact hvd
  ·obtain⟨q,rfl⟩:∃ q,b=h.next+q:=⟨b - h.next,by omega⟩;have hB0:=hB;rw[XY,dU] at hB;obtain⟨C,hC,rfl⟩:=hB;have hbq:=hψq q _ (by rw[hC]; simp) hb
   cases C with
   | obj F x=>exact⟨by intro j x hx; simp at hx,fun h0=>absurd h0 aE⟩
   | cells F p cs'=>
    have hval:h1.valid (m+q)=true:=by
     cases F with
     | none=>simp only[AHeap.valid,hC]
     | some F=>rw[←Pb (h:=h) hC]; exact hvd
    have hBR:=r'.blk (m+q) k i z _ hbq hC hval;have key:∀ (j:Nat) (x:AV),(cs'.map (AV.shm m h.next 4))[j]? = some x→∃ u,w'.cell? ⟨k,i+j,none⟩=some u∧VRel ψ x u:=by
     intro j x hx;rw[fE,dU] at hx;obtain⟨y,hy,rfl⟩:=hx;obtain⟨u,hu,hru⟩:=hBR.cell hy;exact⟨u,hu,AV.shm_rel hnew 4 y u hru⟩
    cases F with
    | none=>exact⟨key,fun h0=>absurd h0 aE⟩
    | some F=>
     obtain⟨c,e,h2,h3,h4⟩:=hBR;refine⟨c,e,h2,h3,fun j x hx=>?_⟩;rw[fE,dU] at hx;obtain⟨y,hy,rfl⟩:=hx;obtain⟨u,hu,hru⟩:=h4 j y hy;exact⟨u,hu,AV.shm_rel hnew 4 y u hru⟩
 intro b k i z F p cs' hb hB;rcases hfm b F p cs' hB with ⟨hlt,hB'⟩|⟨q,F1,c1,rfl,hC,rfl,rfl⟩
 have hb':=hψold b _ hlt hb;obtain⟨c,e,h2,h3⟩:=rr.arr b k i z F p cs' hb' hB';exact⟨c,e,h2.old (hk k (rr.lt b k i z hb')),h3⟩;obtain⟨c,e,h2,h3,h4⟩:=r'.arr _ k i z F1 p c1 (hψq q _ (by rw[hC]; simp) hb) hC;exact⟨c,e,h2,h3,by rw[fK]; exact h4⟩;intro b b' k i i' z z' F F' p p' c1 c2 hb hb' hB hB';rcases hfm b F p c1 hB with ⟨hlt,hB1⟩|⟨q,F1,d1,rfl,hC,rfl,rfl⟩
 have hb1:=hψold b _ hlt hb;have hk1:=rr.lt b k i z hb1;rcases hfm b' F' p' c2 hB' with ⟨hlt',hB2⟩|⟨q',F2,d2,rfl,hC',rfl,rfl⟩
 exact rr.one b b' k i i' z z' F F' p p' c1 c2 hb1 (hψold b' _ hlt' hb') hB1 hB2;have:=himg _ _ _ _ aA (hψq q' _ (by rw[hC']; simp) hb'); omega;have hq:=hψq q _ (by rw[hC]; simp) hb;have hk1:=himg _ _ _ _ aA hq;rcases hfm b' F' p' c2 hB' with ⟨hlt',hB2⟩|⟨q',F2,d2,rfl,hC',rfl,rfl⟩
 have:=rr.lt b' k i' z' (hψold b' _ hlt' hb'); omega;obtain⟨e1,e2⟩:=r'.one _ _ k i i' z z' F1 F2 p p' d1 d2 hq (hψq q' _ (by rw[hC']; simp) hb') hC hC';exact⟨by rw[e1],e2⟩
 ·intro b b' k i i' z z' F p p' c1 c2 hb hb' hB hB';rcases hfm b F p c1 hB with ⟨hlt,hB1⟩|⟨q,F1,d1,rfl,hC,rfl,rfl⟩
  have hb1:=hψold b _ hlt hb;have hk1:=rr.lt b k i z hb1;rcases hψ b' _ hb' with ⟨_,h5⟩|⟨h4,h5⟩
  have:=himg _ _ _ _ aA h5; omega;obtain⟨_,hB2⟩:=hold b' _ h4 hB';exact rr.sep b b' k i i' z z' F p p' c1 c2 hb1 h5 hB1 hB2
  ·have hq:=hψq q _ (by rw[hC]; simp) hb;have hk1:=himg _ _ _ _ aA hq;by_cases hlt':b'<h.next;have:=rr.lt b' k i' z' (hψold b' _ hlt' hb'); omega
   ·obtain⟨q',rfl⟩:∃ q',b'=h.next+q':=⟨b' - h.next,by omega⟩;rw[XY,dU] at hB';obtain⟨C,hC',hB'⟩:=hB';have hq':=hψq q' _ (by rw[hC']; simp) hb'
    cases C with
    | obj F2 x=>
     have e:=r'.map _ _ k i' i z' z F2 x _ hq' hq hC' hC;rw[e,hC] at hC'; cases hC'
    | cells F2 p2 d2=>
     cases F2 with
     | none=>exact r'.sep _ _ k i i' z z' F1 p p2 d1 d2 hq hq' hC hC'
     | some F2=>cases hB'
 intro b b' k i i' z z' F x B hb hb' hB hB';obtain⟨hlt,hB⟩:=hom b F x hB;have hb1:=hψold b _ hlt hb;have hk1:=rr.lt b k i z hb1;rcases hψ b' _ hb' with ⟨_,h5⟩|⟨h4,h5⟩
 have:=himg _ _ _ _ aA h5; omega;obtain⟨_,hB2⟩:=hold b' _ h4 hB';exact rr.map b b' k i i' z z' F x B hb1 h5 hB hB2;intro b F p cs' hB;rcases hfm b F p cs' hB with ⟨hlt,hB1⟩|⟨q,F1,c1,rfl,hC,rfl,rfl⟩
 obtain⟨f,hf,he⟩:=rr.ext b F p cs' hB1;exact⟨f,by rw[Vm h m h1 (AHeap.fam_lt hf)]; exact hf,he⟩;obtain⟨f,hf,he⟩:=r'.ext _ F1 p c1 hC;exact⟨f.shf m h.next,by rw[Vl,hf]; rfl,by rw[fK]; exact he⟩
end Go.Am
namespace Go.Am
def chkO (m : Nat) (h1 : AHeap) (s : Nat) (xs : List AV) : AV → Bool
  | .slc b o n s' full=>decide (m≤b) && (decide (s'=s) && (decide (0<s) && (decide (xs.length=n*s) && (h1.valid b && (xs.all AV.plain && match h1.get b with
    | some (.cells (some F) p cs)=>AV.isP 3 (.agg ((cs.drop o).take xs.length)) (.agg xs) && (full || match h1.fam F with|some f=>decide (p+o+xs.length=f.ext)|none=>false)
    | _=>false)))))
  | .nils=>xs.isEmpty
  | _=>false
theorem chkO_mu {h h1:AHeap} {m n s:Nat} {xs:List AV} {r:AV} (hc:chkO m h1 s xs r=true):∃ F:Option Nat,Mu h.next (h.frozo m h1) F ⟨AV.shm m h.next n r,s,xs,true⟩∧∀ G,F=some G→h.nfam≤G:=by
 cases r with
 | slc b o k s' full=>
  have hc:(decide (m≤b) && (decide (s'=s) && (decide (0<s) && (decide (xs.length=k*s) && (h1.valid b && (xs.all AV.plain && match h1.get b with
   | some (.cells (some F) p cs)=>AV.isP 3 (.agg ((cs.drop o).take xs.length)) (.agg xs) && (full || match h1.fam F with|some f=>decide (p+o+xs.length=f.ext)|none=>false)
   | _=>false))))))=true:=hc
  simp only[dO,decide_eq_true_eq] at hc;obtain⟨hb,rfl,hs,hl,hv,hp,hg⟩:=hc;split at hg
  ·rename_i F p cs he;rw[dO] at hg;obtain⟨hg,ht⟩:=hg;have e:=AV.isP_eq 3 _ _ hg;injection e with e
   have hsh:AV.shm m h.next n (.slc b o k s' full) = .slc (h.next+(b - m)) o k s' full:=by
    cases n <;> simp only[AV.shm] <;> rw[if_neg aA]
   have hbm:m+(b - m)=b:=by omega
   have hget:(h.frozo m h1).get (h.next+(b - m))=some (.cells (some (h.nfam+F)) p (cs.map (AV.shm m h.next 4))):=by
    rw[XY,hbm,he]; rfl
   have hvf:=hv;simp only[AHeap.valid,he] at hvf
   cases hf:h1.fam F with
   | none=>rw[hf] at hvf; cases hvf
   | some f=>
    rw[hf] at hvf ht;refine⟨some (h.nfam+F),.inl ⟨h.next+(b - m),o,p,_,f.shf m h.next,fZ _ _,?_,hget,?_,?_,?_,fun _=>?_⟩,fun G hG=>by cases hG; exact fZ _ _⟩;rw[hsh]; exact .inl ⟨k,full,rfl,hl,hs⟩;rw[Vl,hf]; rfl;rw[Fam.shf_sees,hbm]; exact hvf;show((cs.map (AV.shm m h.next 4)).drop o).take xs.length=xs;rw[←List.map_drop,←List.map_take,e];exact(List.map_congr_left fun x hx=>VR (dP.1 hp x hx)).trans (List.map_id' xs);rw[Bool.or_eq_true] at ht;rcases ht with rfl|ht
    exact .inl ⟨k,hsh⟩;exact .inr (of_decide_eq_true ht)
  cases hg
 | nils=>
  have hc:xs.isEmpty=true:=hc;have e:AV.shm m h.next n .nils = .nils:=by cases n <;> rfl
  rw[e];exact⟨none,⟨rfl,List.isEmpty_iff.1 hc⟩,fun G hG=>by cases hG⟩
 | _=>cases hc
theorem chkO_st {h h1:AHeap} {m n s:Nat} {xs:List AV} {r:AV} (hc:chkO m h1 s xs r=true):St h (h.frozo m h1) [⟨AV.shm m h.next n r,s,xs,true⟩]:=by
 obtain⟨F,hm,hF⟩:=chkO_mu (h:=h) (n:=n) hc;refine⟨V0 h m h1,[F],rfl,?_,?_,?_⟩
 ·intro i o G ho hG
  cases i with
  | zero=>cases ho; cases hG; exact hm
  | succ i=>cases ho
 ·intro i j G hi hj
  cases i with
  | zero=>
   cases j with
   | zero=>rfl
   | succ j=>cases hj
  | succ i=>cases hi
 ·intro i G hG
  cases i with
  | zero=>
   have hG:F=some G:=Option.some.inj hG;exact hF G hG
  | succ i=>cases hG
theorem SA {P : Program} {orc : Orc} (ho : VH P orc) (hm : P.follows .mixedOrders = true) {n : Nat} {f : FuncId} {args args' : List AV} {h : AHeap} (bs : List ArgB) (gs : List Nat) {test : AV → AHeap → Bool} (hok : ∀ p ∈ bs, OkG h bs p) (hg : ∀ g ∈ gs, g ∈ h.globs ∧ ∃ p, bs[g]? = some p ∧ p.v = .ptr g 0) (hl : args.length = args'.length) (hi : ∀ (j : Nat) (x y : AV), args[j]? = some x → args'[j]? = some y → ImG bs x y)
    (hr:UH P orc n f args' (bs.map ArgB.ys) gs test=true):∃ r h1,test r h1=true∧Ev P f args h (AV.shm bs.length h.next 4 r) (h.frozo bs.length h1):=by
 unfold UH at hr;split at hr;rename_i r h1 hc;rw[List.map_map] at hc;have hev:Ev P f args' (Js bs gs) r h1:=YV (ok:=okY P) ho hm am al n hc;refine⟨r,h1,hr,?_⟩;have:=hev.overO (args:=args) (fun b B hB=>by obtain⟨p,_,h2⟩:=ZQ hB; exact⟨0,_,h2⟩) h (fun φ w cs rr ha=>⟨Vj φ bs,?_,Ti hok hg rr,by have:=ha.1; omega,?_⟩);rwa [YZ] at this;intro b hb;rw[YZ] at hb;simp only[Vj,List.getElem?_eq_none hb];intro j y c hy hc';have hj:j<args.length:=by have:=(fY.1 hy).1; omega
 exact ImG.rel hok (hi j _ y (dV hj) hy) (ha.2 j _ c (dV hj) hc');cases hr
theorem over_evO {P : Program} (hm : P.follows .mixedOrders = true) {n : Nat} {f : FuncId} {args args' : List AV} {h : AHeap} (bs : List ArgB) (gs : List Nat) {test : AV → AHeap → Bool} (hok : ∀ p ∈ bs, OkG h bs p) (hg : ∀ g ∈ gs, g ∈ h.globs ∧ ∃ p, bs[g]? = some p ∧ p.v = .ptr g 0) (hl : args.length = args'.length) (hi : ∀ (j : Nat) (x y : AV), args[j]? = some x → args'[j]? = some y → ImG bs x y)
    (hr:XP P n f args' (bs.map ArgB.ys) gs test=true):∃ r h1,test r h1=true∧Ev P f args h (AV.shm bs.length h.next 4 r) (h.frozo bs.length h1):=SA Jx hm bs gs hok hg hl hi hr
def RA (m:Nat) (s:Nat) (xs:List AV) (q:AV) (r:AV) (h1:AHeap):Bool:=match r with
  | .tup [a,b]=>chkO m h1 s xs a && (AV.isP 3 b q && q.plain)
  | _=>false
theorem over_tupO {P : Program} (hm : P.follows .mixedOrders = true) {n m s : Nat} {f : FuncId} {args args' : List AV} {ys : List (List AV)} {gs : List Nat} {xs : List AV} {q : AV} (hr : XP P n f args' ys gs (RA m s xs q) = true) {h : AHeap} (bs : List ArgB) (hys : bs.map ArgB.ys = ys) (hmb : bs.length = m) (hok : ∀ p ∈ bs, OkG h bs p) (hg : ∀ g ∈ gs, g ∈ h.globs ∧ ∃ p, bs[g]? = some p ∧ p.v = .ptr g 0) (hl : args.length = args'.length) (hi : ∀ (j : Nat) (x y : AV), args[j]? = some x → args'[j]? = some y → ImG bs x y) :
    ACalls P f args h (fun r h'=>∃ a,r = .tup [a,q]∧St h h' [⟨a,s,xs,true⟩]):=by
 subst hys hmb;obtain⟨r,h1,ht,he⟩:=over_evO hm bs gs hok hg hl hi hr;unfold RA at ht;split at ht;rename_i a b;simp only[dO] at ht;obtain⟨ha,hb,hq⟩:=ht;obtain rfl:=AV.isP_eq 3 _ _ hb;exact⟨_,_,he,AV.shm bs.length h.next 3 a,by simp only[AV.shm,List.map_cons,List.map_nil,VR hq],chkO_st ha⟩;cases ht
end Go.Am
namespace Go.Am
def parts:List (List Nat):=(fI 5).flatMap fun a=>(fI (a+1)).flatMap fun b=>(fI (b+1)).flatMap fun c=>(fI (c+1)).map fun d=>[a,b,c,d].filter fun x=>decide (0<x)
end Go.Am
namespace Go.Am
theorem Vr {h:AHeap} {v:AV}:ACalls Go.Proofs.Tryz.prog 10 [v] h (fun q h'=>q=v∧h=h'):=by
 refine OK 4 [.tmp 2] Go.Proofs.Tryz.func10 rfl aE rfl rfl (dY rfl) ?_;show KA _ 4 _ _ [(0,v)] _;refine Oa [0] ?_;refine bY ?_;exact⟨rfl,rfl⟩
end Go.Am
namespace Go.Am
def ZL:Int→AV:=AV.int .i64
def minS (L:List (Int × Int)) (o:Int) (j:Nat):Int:=if 1<(L.getD j (0,0)).2∧(o=0∨(L.getD j (0,0)).1<o) then (L.getD j (0,0)).1 else o
def Ys (L:List (Int × Int)) (D:List Nat):Int:=D.foldl (minS L) 0
theorem minD_snoc (L:List (Int × Int)) (D:List Nat) (j:Nat):Ys L (D ++ [j])=minS L (Ys L D) j:=by simp[Ys]
theorem minD_perm {L:List (Int × Int)} (hp:∀ j,j<L.length→0<(L.getD j (0,0)).1) {D D':List Nat} (h:D.Perm D') (hb:∀ j∈D,j<L.length):Ys L D=Ys L D':=by
 unfold Ys;refine h.foldl_eq' ?_ 0;intro x hx y hy z;have h1:=hp x (hb x hx);have h2:=hp y (hb y hy);unfold minS;generalize L.getD x (0,0)=a at h1⊢;generalize L.getD y (0,0)=b at h2⊢;by_cases c1 : 1<a.2 <;> by_cases c2 : 1<b.2 <;> by_cases c3:z=0 <;> by_cases c4:a.1<z <;> by_cases c5:b.1<z <;> by_cases c6:a.1<b.1 <;> by_cases c7:b.1<a.1 <;> simp[c1,c2,c3,c4,c5,c6,c7] <;> omega
theorem minD_le {L:List (Int × Int)} (hp:∀ j,j<L.length→0<(L.getD j (0,0)).1∧(L.getD j (0,0)).1≤1000):∀ D:List Nat,(∀ j∈D,j<L.length)→0≤Ys L D∧Ys L D≤1000:=by
 intro D hb;have:∀ (D:List Nat) (o:Int),(∀ j∈D,j<L.length)→0≤o∧o≤1000→0≤D.foldl (minS L) o∧D.foldl (minS L) o≤1000:=by
  intro D
  induction D with
  | nil=>intro o _ h; exact h
  | cons j D ih=>
   intro o hb h;refine ih _ (fun x hx=>hb x (List.mem_cons_of_mem _ hx)) ?_;have:=hp j (hb j List.mem_cons_self);unfold minS;split <;> omega
 exact this D 0 hb ⟨Int.le_refl _,by decide⟩
theorem Wu (h:AHeap) (x y:Thing):(h.allocT x).set h.next (.obj h.nfam y)=h.allocT y:=by
 unfold AHeap.allocT AHeap.set AHeap.pushFam AHeap.push AHeap.next AHeap.nfam;dsimp only;congr 1;rw[List.set_append_right _ _ (fB _)];simp
theorem clash_ev {s : Int} {L : List (Int × Int)} {bm Fm : Nat} {hY : AHeap} {c : Int} (hcnt : Ev Go.Proofs.Tryz.prog 161 [.agg [.int .i64 13, .int .u32 s]] (h00.alloc [.int .i64 13, .int .u32 s]) (.mp bm) hY) (hg : hY.get bm = some (.obj Fm (.map (entL ZL ZL L))))
    (hp:∀ j,j<L.length→0<(L.getD j (0,0)).1∧(L.getD j (0,0)).1≤1000) (hc:Ys L (fI L.length)=c):ACalls Go.Proofs.Tryz.prog 121 [.agg [.int .i64 13,.int .u32 s]] h00 (fun r _=>r = .int .i64 c):=by
 have hlen:(entL ZL ZL L).length=L.length:=fK _;have hgetI:∀ D,(hY.allocT (.mwalk bm (entL ZL ZL L).length D)).get hY.next=some (.obj hY.nfam (.mwalk bm (entL ZL ZL L).length D)):=fun D=>by rw[AHeap.get_allocT,if_pos rfl]
 have hgetM:∀ D,(hY.allocT (.mwalk bm (entL ZL ZL L).length D)).get bm=some (.obj Fm (.map (entL ZL ZL L))):=fun D=>by
  rw[AHeap.get_allocT,if_neg (by have:=AHeap.get_lt hg; omega)]; exact hg
 refine OK 27 [.tmp 2] Go.Proofs.Tryz.func121 rfl aE rfl rfl (dY rfl) ?_;show KA _ 27 _ _ [(0,.agg [.int .i64 13,.int .u32 s])] _;refine Ot ?_;refine KOps.allo (mk:=.ptr) (cs:=[.int .i64 13,.int .u32 s]) rfl rfl ?_;refine Oq ?_;refine bl ?_;refine bg ?_;refine Ot ?_;refine KOps.read (v:=.agg [.int .i64 13,.int .u32 s]) rfl aB ?_;refine Oo rfl (R:=fun r h'=>r = .mp bm∧hY=h') ⟨_,_,hcnt,rfl,rfl⟩ ?_;rintro _ _ ⟨rfl,rfl⟩;refine Zv (UY (p:=(3,3)) rfl aB EvK.eq hg) ?_;refine Oj [3,8] ?_;refine Oz ?_;refine KA.mapLoop (b:=hY.next) (F:=hY.nfam) (bm:=bm) (Fm:=Fm) (es:=entL ZL ZL L) (id:=0) (fun D=>[(3,.int .i64 (Ys L D)),(8,.it hY.next)]) (fun D=>hY.allocT (.mwalk bm (entL ZL ZL L).length D)) (KE:=[(3,.int .i64 c)]) (HE:=hY.allocT .gone) rfl (fun _ _=>EvK.eq) (fun D _=>hgetI D) (fun D _=>hgetM D) ?_ ?_ (by repeat (first|exact Sub.nil _|refine Sub.cons Look.eq ?_)) rfl ?_;intro D j k v hD hj hjk;rw[Wu];have hjl:=(fY.1 hjk).1;rw[hlen] at hjl;have hkv:k=ZL (L.getD j (0,0)).1∧v=ZL (L.getD j (0,0)).2:=by
  rw[List.getD_eq_getElem?_getD];simp only[entL,fE,dV hjl,fD,Option.some.injEq,Prod.mk.injEq] at hjk;rw[dV hjl];exact⟨hjk.1.symm,hjk.2.symm⟩
 obtain⟨rfl,rfl⟩:=hkv;have hms:=minD_snoc L D j;have hpj:=hp j hjl;have hml:=minD_le hp D (fun x hx=>by have:=hD.2 x hx; omega);unfold minS at hms;generalize L.getD j (0,0)=p at hms hpj hjk⊢;generalize Ys L D=o at hms hml⊢;refine OG ?_;refine Og ?_;refine Ou ?_;refine KW ?_;refine OD [3,8] ?_;refine Oz ?_;refine Ot ?_;refine Zv (UV rfl EvK.eq (hgetI _) (hgetM _) hjk) ?_;refine Oa [3,8,4,5] ?_;refine Ot ?_;show KOps _ _ _ _ _ _ _ [(3,.int .i64 o),(8,.it hY.next),(4,.int .i64 p.1),(5,.int .i64 p.2)] _;refine Oc ?_;refine Ov (dj:=16) rfl rfl true false rfl ?_ ?_;intro g16;have g16 : 1<p.2:=of_decide_eq_true g16;refine Oc ?_;refine Ov (dj:=19) rfl rfl false true rfl ?_ ?_;intro g19;have g19:¬ o=0:=of_decide_eq_false g19;refine Oa [3,8,4,24] ?_;refine On ?_ ?_;intro c24;refine ce ?_;exact⟨rfl,aM,rfl⟩;intro c24;refine cG ?_;exact⟨rfl,aM,rfl⟩;intro g19;have g19:o=0:=of_decide_eq_true g19;refine bX ?_;refine Od ?_;refine KW ?_;refine ce ?_;exact⟨rfl,aM,rfl⟩;intro g16;have g16:¬ 1<p.2:=of_decide_eq_false g16;refine Oc ?_;refine Qy (dj:=19) rfl rfl ?_;refine Qy (dj:=19) rfl rfl ?_;refine Qy (dj:=19) rfl rfl ?_;refine bX ?_;refine Od ?_;refine OM ?_;refine cG ?_;exact⟨rfl,aM,rfl⟩;intro D hD hf;have hperm:D.Perm (fI L.length):=(List.perm_ext_iff_of_nodup hD.1 List.nodup_range).2 fun i=>⟨fun hi=>fN.2 (by have:=hD.2 i hi; omega),fun hi=>hf i (by rw[hlen]; exact fN.1 hi)⟩
 have hce:Ys L D=c:=by rw[minD_perm (fun j hj=>(hp j hj).1) hperm (fun x hx=>by have:=hD.2 x hx; omega),hc]
 refine OG ?_;refine Og ?_;refine Ou ?_;refine OM ?_;refine Kb ?_;refine O2 ?_;rw[hce];exact⟨rfl,(by repeat (first|exact Sub.nil _|refine Sub.cons Look.eq ?_)),⟨_,hgetI D⟩,Wu _ _ _⟩;refine O5 ?_;refine Od ?_;refine bX ?_;refine Od ?_;refine Oi ?_;rfl
end Go.Am
namespace Go.Am
open Go.RowKit
def AV.flat0 : AV → Bool
  | .int _ _=>true
  | .bool _=>true
  | .str _=>true
  | _=>false
def AV.flat : AV → Bool
  | .tup l=>l.all AV.flat0
  | .agg l=>l.all AV.flat0
  | x=>x.flat0
theorem Tb {φ ψ:Emb} {x:AV} {v:Value} (hx:x.flat0=true) (h:VRel φ x v):VRel ψ x v:=by
 cases h <;> first|(cases hx; done)|exact .int _ _|exact .bool _|exact .str _
theorem Sh {φ ψ:Emb} {x:AV} {v:Value} (hx:x.flat=true) (h:VRel φ x v):VRel ψ x v:=by
 cases h with
 | tup l cs hl hh=>exact .tup l cs hl fun j x y h1 h2=>Tb (dP.1 hx x (fF h1)) (hh j x y h1 h2)
 | agg l cs hl hh=>exact .agg l cs hl fun j x y h1 h2=>Tb (dP.1 hx x (fF h1)) (hh j x y h1 h2)
 | int k n=>exact .int k n
 | bool b=>exact .bool b
 | str s=>exact .str s
 | _=>cases hx
theorem flats_rel {φ ψ:Emb} {l:List AV} {cs:List Value} (hx:l.all AV.flat=true) (h:VRels φ l cs):VRels ψ l cs:=
  ⟨h.1,fun j x y h1 h2=>Sh (dP.1 hx x (fF h1)) (h.2 j x y h1 h2)⟩
theorem Ev.of_below {P:Program} {f:FuncId} {args:List AV} {r:AV} (hok:Okf P f) (hc:∀ (φ:Emb) (w:World) (cs:List Value),VRels φ args cs→Calls P f cs.toArray w fun e w'=>∃ v,e = .returned v∧VRel φ r v∧Below w.heap.size w w') (h:AHeap):Ev P f args h r h:=by
 refine⟨hok,HGrow.refl h,?_⟩;intro φ w cs _ rr ha;refine(hc φ w cs ha).mono ?_;rintro e w' ⟨v,rfl,hv,bel⟩;have hk:∀ k,k<w.heap.size→w'.heap[k]? = w.heap[k]?:=fun k hk=>bel.block k hk
 refine⟨v,φ,rfl,⟨Emb.le_refl φ,fun b h1 h2=>by omega,fun b p h1 h2=>aq,fun b k i z h1 h2=>aq,fun k hk' _=>hk k hk',bel.os,bel.tape,bel.output,bel.size⟩,?_,hv⟩;refine⟨rr.glob,fun b k i z hb=>dX (rr.lt b k i z hb) bel.size,?_,?_,rr.one,rr.sep,rr.map,rr.ext⟩;intro b k i z B hb hB hv;exact(rr.blk b k i z B hb hB hv).world (hk k (rr.lt b k i z hb));intro b k i z F p cs hb hB;obtain⟨c,e,h2,h3⟩:=rr.arr b k i z F p cs hb hB;exact⟨c,e,h2.old (hk k (rr.lt b k i z hb)),h3⟩
theorem Ev.free {P:Program} {f:FuncId} {args:List AV} {r:AV} {h1:AHeap} (he:Ev P f args h00 r h1) (ha:args.all AV.flat=true) (hr:r.flat=true) (h:AHeap):Ev P f args h r h:=by
 refine Ev.of_below he.1 ?_ h;intro φ w cs hcs;refine(he.2.2 φ00 w cs (fun _ _ _=>rfl) (HRel.empty w) (flats_rel ha hcs)).mono ?_;rintro e w' ⟨v,φ',rfl,t,_,hv⟩;exact⟨v,rfl,Sh hr hv,t.below⟩
noncomputable def decE : List (AV × AV) → Option (List (Int × Int))
  | []=>some []
  | (.int .i64 a,.int .i64 b)::l=>(decE l).map ((a,b) :: ·)
  | _=>none
theorem decE_ent:∀ {l:List (AV × AV)} {L:List (Int × Int)},decE l=some L→l=entL ZL ZL L:=by
 intro l
 induction l with
 | nil=>intro L h; cases h; rfl
 | cons p l ih=>
  intro L h;unfold decE at h;split at h;rename_i e; cases e;rename_i a b l' e;cases e;rw[dU] at h;obtain⟨L',h1,rfl⟩:=h;rw[ih h1]; rfl;cases h
noncomputable def WC (s c:Int):Bool:=match YM Go.Proofs.Tryz.prog (okY Go.Proofs.Tryz.prog) (Zf Go.Proofs.Tryz.prog noOrc (okY Go.Proofs.Tryz.prog) 4000) 161 [.agg [.int .i64 13,.int .u32 s]] (h00.alloc [.int .i64 13,.int .u32 s]) with
  | some (.mp bm,hY)=>match hY.get bm with
    | some (.obj _ (.map es))=>match decE es with
      | some L=>(fI L.length).all (fun j=>decide (0<(L.getD j (0,0)).1) && decide ((L.getD j (0,0)).1≤1000)) && decide (Ys L (fI L.length)=c)
      | none=>false
    | _=>false
  | _=>false
theorem R8 {s c:Int} (h:WC s c=true) (h':AHeap):Ev Go.Proofs.Tryz.prog 121 [.agg [.int .i64 13,.int .u32 s]] h' (.int .i64 c) h':=by
 unfold WC at h;split at h;rename_i bm hY hc;split at h;rename_i F es hg;split at h;rename_i L hL;rw[dO,dP,decide_eq_true_eq] at h;obtain⟨h1,h2⟩:=h;obtain rfl:=decE_ent hL;have hcnt:=YV (ok:=okY Go.Proofs.Tryz.prog) Jx mixed am al 4000 hc;obtain⟨r,h1',he,rfl⟩:=clash_ev hcnt hg (fun j hj=>by have:=h1 j (fN.2 hj); simpa only[dO,decide_eq_true_eq] using this) h2;exact he.free rfl rfl h';cases h;cases h;cases h
def clTab:List (Int × Int):=[(1,0),(3,0),(7,1),(11,0),(27,1),(43,2),(75,3),(139,6),(267,5),(523,0)]
theorem R6:clTab.all (fun p=>WC p.1 p.2)=true:=by kernel_rfl
noncomputable def orcS:Orc:=fun f args h=>if fT f 121 then (match args with
    | [.agg [.int .i64 m,.int .u32 s]]=>if decide (m=13) then (clTab.find? (fun p=>decide (p.1=s))).map (fun p=>(.int .i64 p.2,h)) else none
    | _=>none) else none
theorem orcS_ok:VH Go.Proofs.Tryz.prog orcS:=by
 intro f args h r h' ho;unfold orcS at ho;split at ho;rename_i hf;obtain rfl:=dR hf;split at ho;rename_i m s;split at ho;rename_i hm;obtain rfl:=of_decide_eq_true hm;rw[dU] at ho;obtain⟨p,hp,he⟩:=ho;cases he;have h1:=dP.1 R6 p (List.mem_of_find?_eq_some hp);have h2:p.1=s:=by simpa using List.find?_some hp
 subst h2;exact R8 h1 h;cases ho;cases ho;cases ho
end Go.Am
namespace Go.Am.R
theorem AW.region_drawLG {P : Program} {id c : Nat} {ops : Array Oper} {l1 l2 : List Oper} {oc : Oper} {ex : List Nat} {sz : Nat} {Q : Ex → List AV → AHeap → Prop} {fr : List AV} {h : AHeap} (hm : P.follows .mixedOrders = true) (hl : ops.toList = l1 ++ oc :: l2) (hc : l1.length = c)
    (hok:RgOk sz ops ex []) (hsz:fr.length=sz) (hmk:ex.contains (c+1000)=true)
    (hw:AOps P ops ex (fun fr1 h1=>(∃ j want,oc.guard=some (j,want)∧guardA ops fr1 j=some (some want))∧∃ v,StepS P (evalA h1.globs fr1) oc h1 v h1∧AOps P ops ex (Q .normal) (c+1) l2 (setF fr1 oc.dst v) h1) 0 l1 fr h):AW P (.region id ops true) Q fr h:=by
 have hsize:ops.size=l1.length+(l2.length+1):=by rw[←Array.length_toList,hl,List.length_append,List.length_cons]
 have g1:∀ i,i<l1.length→l1[i]? = ops[0+i]?:=by
  intro i hi;rw[fR,←fC,hl,fU hi]
 have hoc:ops[c]? = some oc:=by
  rw[←fC,hl,dS (by omega),hc,Nat.sub_self]; rfl
 have g2:∀ i,l2[i]? = ops[c+1+i]?:=by
  intro i;rw[←fC,hl,dS (by omega),hc,show c+1+i - c=i+1 by omega];rfl
 obtain⟨vs1,frs1,hs1,e1,e2,⟨hg,v,hst,hK1⟩,hall1⟩:=aops_textP hok.ntx l1 0 fr h g1 hw;simp only[fR,hc] at hst hK1 hall1 hg;obtain⟨vs2,frs2,hs2,e3,e4,hK2,hall2⟩:=aops_text hok.ntx l2 (c+1) _ _ g2 hK1;refine AW.region_run hm hok hsz (vs:=fun i=>if i<c then vs1 i else if i=c then v else vs2 i) (frs:=fun i=>if i≤c then frs1 i else frs2 i) (hs:=fun i=>if i≤c then hs1 i else hs2 i) (by simp[e1]) (by simp[e2]) ?_ ?_ ?_;simp only[if_neg (show¬ ops.size≤c by omega)];rw[show ops.size=c+1+l2.length by omega];exact hK2;intro i oi hi hoi;by_cases h1:i<c;simp only[if_pos h1,if_pos (show i≤c by omega),if_pos (show i+1≤c by omega)];exact TS.of (hall1 i oi (fO _) (by omega) hoi);by_cases h2:i=c;subst h2;rw[hoc] at hoi;cases hoi;simp only[if_neg h1,if_true,fB,if_neg (show¬ i+1≤i by omega),e3,e4];exact⟨rfl,.inr ⟨.inr hg,SemI.mark hmk hst,fun _ w=>HExt.refl _⟩⟩;simp only[if_neg h1,if_neg h2,if_neg (show¬ i≤c by omega),if_neg (show¬ i+1≤c by omega)];exact TS.of (hall2 i oi (by omega) (by omega) hoi);intro c r o hcr; cases hcr
end Go.Am.R
namespace Go.Am
section drawG
variable {P:Program} {n:Nat} {Q:Ex→KF→AHeap→Prop} {K:KF} {h:AHeap}
theorem KA.drawLG {id c d j : Nat} {want : Bool} {ops : Array Oper} {l1 l2 : List Oper} {op : Op} {ty : TypeId} {pos : String} {after : Array Edge} (ex : List Nat) (hm : P.follows .mixedOrders = true) (hl1 : ops.toList.take c = l1) (hl2 : ops.toList.drop c = ⟨some d, op, ty, pos, after, some (j, want)⟩ :: l2) (hc : l1.length = c) (hok : R.rgOk n ops.toList ex = true) (hmk : ex.contains (c + 1000) = true)
    (hw:KOps P n ops ex (fun K1 h1=>guardA ops (KJ n K1) j=some (some want)∧∃ v,StepS P (KK h1.globs n K1) ⟨some d,op,ty,pos,after,some (j,want)⟩ h1 v h1∧KOps P n ops ex (Q .normal) (c+1) l2 ((d,v)::K1) h1) 0 l1 K h):KA P n (.region id ops true) Q K h:=by
 refine R.AW.region_drawLG (c:=c) (l1:=l1) (l2:=l2) hm (by rw[←hl1,←hl2,List.take_append_drop]) hc (R.rgOk_sound rfl hok) (Qg n K) hmk ?_;refine QN ?_ _ _ _ _ hw;rintro fr1 h1 ⟨K1,rfl,hg,v,hst,hrest⟩;refine⟨⟨j,want,rfl,hg⟩,v,?_,?_⟩;rw[ZY]; exact hst;simp only[setF,ZB]; exact hrest
end drawG
noncomputable def keptB (cs:List AV) (h:AHeap):Bool:=match h.get 0,h.fam 0,h.globs with
  | some (.cells (some F) p xs),some f,[]=>fT F 0 && (fT p 0 && (AV.isP 3 (.agg cs) (.agg xs) && (fT f.ext cs.length && f.live.isNone)))
  | _,_,_=>false
theorem Pe {cs:List AV} {h:AHeap} (hk:keptB cs h=true):Keeps (h00.alloc cs) h:=by
 unfold keptB at hk;split at hk
 ·rename_i F p xs f h1 h2 h3;simp only[dO] at hk;obtain⟨hF,hp,hx,he,hl⟩:=hk;obtain rfl:=dR hF;obtain rfl:=dR hp;have hx:=AV.isP_eq 3 _ _ hx;injection hx with hx
  subst hx;have he:=dR he;have hb:=AHeap.get_lt h1;have hf : 0<h.nfam:=(fY.1 h2).1;refine⟨hb,hf,h3,?_,?_⟩;intro b hb;obtain rfl:b=0:=Nat.lt_one_iff.1 hb;rw[h1]; rfl
  ·intro F hF;obtain rfl:F=0:=Nat.lt_one_iff.1 hF;rw[h2];obtain⟨e,l⟩:=f
   cases l with
   | none=>simp only at he; subst he; rfl
   | some l=>cases hl
 cases hk
noncomputable def perfR (s:Int) (m:Nat):Bool:=match YM Go.Proofs.Tryz.prog (okY Go.Proofs.Tryz.prog) (Zf Go.Proofs.Tryz.prog noOrc (okY Go.Proofs.Tryz.prog) 4000) 161 [.agg [.int .i64 13,.int .u32 s]] (h00.alloc [.int .i64 13,.int .u32 s]) with
  | some (.mp bm,hY)=>match hY.get bm with
    | some (.obj _ (.map es))=>decide (es.length=m) && keptB [.int .i64 13,.int .u32 s] hY
    | _=>false
  | _=>false
theorem perf_ev {s:Int} (h0:WC s 0=true) (h1:perfR s 12=true) (h':AHeap):Ev Go.Proofs.Tryz.prog 123 [.agg [.int .i64 13,.int .u32 s]] h' (.bool true) h':=by
 unfold perfR at h1;split at h1;rename_i bm hY hc;split at h1;rename_i F es hg;rw[dO,decide_eq_true_eq] at h1;obtain⟨hlen,hkept⟩:=h1;have hK:=Pe hkept;have hcnt:=YV (ok:=okY Go.Proofs.Tryz.prog) Jx mixed (by intro f hf; simp only[okY,dO] at hf; exact hf.1) (by intro f hf; simp only[okY,dO] at hf; exact hf.2) 4000 hc;have hrd:Rd (h00.alloc [.int .i64 13,.int .u32 s]) (.ptr 0 0) 0 [.int .i64 13,.int .u32 s]:=.inr (.inl ⟨0,0,some 0,0,_,.inr ⟨rfl,rfl⟩,rfl,rfl,rfl⟩);have hA:ACalls Go.Proofs.Tryz.prog 123 [.agg [.int .i64 13,.int .u32 s]] h00 (fun r _=>r = .bool true):=by
  refine OK 15 [.tmp 2] Go.Proofs.Tryz.func123 rfl (by decide) rfl rfl (dY rfl) ?_;show KA _ 15 _ _ [(0,.agg [.int .i64 13,.int .u32 s])] _;refine Ot ?_;refine KOps.allo (mk:=.ptr) (cs:=[.int .i64 13,.int .u32 s]) rfl rfl ?_;refine Oq ?_;refine Og ?_;refine Od ?_;refine Ou ?_;refine KA.drawLG (c:=6) (d:=9) (j:=3) (want:=true) [5,6,1006] mixed rfl rfl rfl (by kernel_rfl) (by decide) ?_;refine KOps.read (v:=.agg [.int .i64 13,.int .u32 s]) rfl (by kernel_rfl) ?_;refine Oo rfl (R:=fun r h'=>r = .int .i64 0∧h00.alloc [.int .i64 13,.int .u32 s]=h') ⟨_,_,R8 h0 _,rfl,rfl⟩ ?_;rintro _ _ ⟨rfl,rfl⟩;refine Ku ?_;refine OI ?_;refine KOps.read (v:=.agg [.int .i64 13,.int .u32 s]) rfl (by kernel_rfl) ?_;refine Oh (dj:=6) rfl rfl ?_;refine Kl (R:=fun r h'=>r = .mp bm∧hY=h') (by rintro _ _ ⟨_,rfl⟩; exact hK) ⟨_,_,hcnt,rfl,rfl⟩ ?_;rintro _ _ ⟨rfl,rfl⟩;refine Og ⟨rfl,_,UU rfl (p:=(3,3)) (by kernel_rfl) (es:=es) (by show ents hY (.mp bm)=some es; simp only[ents,hg]),?_⟩;rw[hlen];refine Oh (dj:=6) rfl rfl ?_;refine O9 (v:=.ptr 0 0) rfl (by kernel_rfl) ?_;refine Oh (dj:=6) rfl rfl ?_;refine Of (v:=.ptr 0 0) (s:=0) (j:=0) ⟨0,0,.inr ⟨rfl,rfl⟩,rfl⟩ (hrd.ext hK) rfl ?_;refine Oh (dj:=6) rfl rfl ?_;refine KOps.sub (by decide) (by decide) ?_;refine Oh (dj:=6) rfl rfl ?_;refine Ku ?_;refine O1 ?_;refine Oq ?_;refine Og ?_;refine Od ?_;refine Oi ?_;rfl
 obtain⟨r,h1',he,rfl⟩:=hA;exact he.free rfl rfl h';cases h1;cases h1
theorem perf_run:perfR 523 12=true:=by kernel_rfl
noncomputable def orcT:Orc:=fun f args h=>match orcS f args h with
  | some x=>some x
  | none=>if fT f 123 then (match args with
    | [.agg [.int .i64 m,.int .u32 s]]=>if decide (m=13) && decide (s=523) then some (.bool true,h) else none
    | _=>none) else none
theorem orcT_ok:VH Go.Proofs.Tryz.prog orcT:=by
 intro f args h r h' ho;unfold orcT at ho;split at ho;rename_i x hx;cases ho;exact orcS_ok _ _ _ _ _ hx;split at ho;rename_i hf;obtain rfl:=dR hf;split at ho;rename_i m s;split at ho;rename_i hm;rw[dO,decide_eq_true_eq,decide_eq_true_eq] at hm;obtain⟨rfl,rfl⟩:=hm;cases ho;exact perf_ev (dP.1 R6 (523,0) (by decide)) perf_run h;cases ho;cases ho;cases ho
end Go.Am
namespace Go.Am
open Go.RowKit
def chkSeal (m:Nat) (k:AV) (xs:List AV) (q:AV) (r:AV) (h1:AHeap):Bool:=match r with
  | .tup [.agg [x,a],b]=>chkO m h1 1 xs a && ((AV.isP 3 k x && k.plain) && (AV.isP 3 q b && q.plain))
  | _=>false
theorem find_run:UH Go.Proofs.Tryz.prog orcT 4000 87 [.int .i64 13,.int .i64 4] [] [] (chkSeal 0 (.int .i64 13) (ints [0,1,3,9]) (.int .i64 0))=true:=by kernel_rfl
theorem find_c {h:AHeap}:ACalls Go.Proofs.Tryz.prog 87 [.int .i64 13,.int .i64 4] h (fun r h'=>∃ a,r = .tup [.agg [.int .i64 13,a],.int .i64 0]∧St h h' [⟨a,1,ints [0,1,3,9],true⟩]):=by
 obtain⟨r,h1,ht,he⟩:=SA orcT_ok mixed (h:=h) [] [] (fun p hp=>by cases hp) XD rfl (fun j x y hx hy=>by
  match j,hx,hy with
  | 0,hx,hy=>cases hx; cases hy; exact .plain _ rfl
  | 1,hx,hy=>cases hx; cases hy; exact .plain _ rfl
  | j+2,hx,_=>cases hx) find_run
 unfold chkSeal at ht;split at ht;rename_i x a b;simp only[dO] at ht;obtain⟨ha,⟨hx,hxp⟩,hb,hq⟩:=ht;obtain rfl:=AV.isP_eq 3 _ _ hx;obtain rfl:=AV.isP_eq 3 _ _ hb;exact⟨_,_,he,AV.shm 0 h.next 2 a,rfl,chkO_st ha⟩;cases ht
end Go.Am
namespace Go.Am
structure Sht where
  r:Nat
  c:Nat
  l:Nat
  w:Nat
def XT (w c : Nat) : Nat → Nat
  | 0=>0
  | h+1=>(XT w c h) <<< c ||| (2 ^ w - 1)
def fzN (b : Nat) : Nat → Nat → Nat
  | 0,i=>i
  | f+1,i=>if b.testBit i=true then fzN b f (i+1) else i
abbrev Sht.n (s:Sht):Nat:=s.r*s.c
abbrev Sht.full (s:Sht):Nat:=2 ^ s.n - 1
def Sht.high (s:Sht) (t:Bool):Nat:=cond t s.w s.l
def Sht.broad (s:Sht) (t:Bool):Nat:=cond t s.l s.w
def Sht.cover (s:Sht) (t:Bool) (n:Nat):Nat:=XT (s.broad t) s.c (s.high t) <<< n
def Sht.fits (s:Sht) (t:Bool) (n:Nat):Bool:=decide (n / s.c+s.high t≤s.r) && decide (n % s.c+s.broad t≤s.c)
def Sht.put (s:Sht) (b:Nat) (t:Bool) (n:Nat):Option Nat:=
  if s.fits t n=true then (if b &&& s.cover t n=0 then some (b ||| s.cover t n) else none) else none
def Yd : Bool → Option (Nat × Nat) → Option (Nat × Nat)
  | true,x=>x
  | false,some (a,b)=>some (a+1,b+1)
  | false,none=>none
def both : Option (Nat × Nat) → Option (Nat × Nat) → Option (Nat × Nat)
  | none,y=>y
  | x,none=>x
  | some (a,b),some (c,d)=>some (min a c,max b d)
def Sht.upr (s : Sht) : Nat → Nat → Option (Nat × Nat)
  | 0,_=>some (0,0)
  | f+1,b=>if b=s.full then some (0,0) else
      let n:=fzN b s.n 0
      both (match s.put b false n with | some x => Yd false (s.upr f x) | none => none)
        (if s.l=s.w then none else match s.put b true n with|some x=>Yd true (s.upr f x)|none=>none)
end Go.Am
namespace Go.Am
theorem fzN_ge (b:Nat):∀ f i,i≤fzN b f i∧fzN b f i≤i+f:=by
 intro f
 induction f with
 | zero=>intro i; exact⟨fB _,fB _⟩
 | succ f ih=>
  intro i;unfold fzN;split;have:=ih (i+1); omega;omega
theorem RD (b:Nat):∀ f i j,i≤j→j<fzN b f i→b.testBit j=true:=by
 intro f
 induction f with
 | zero=>intro i j h1 h2; unfold fzN at h2; omega
 | succ f ih=>
  intro i j h1 h2;unfold fzN at h2;split at h2;rename_i hb;rcases dQ h1 with h|h
  exact ih (i+1) j h h2;rw[←h]; exact hb;omega
theorem RC (b:Nat):∀ f i,fzN b f i<i+f→b.testBit (fzN b f i)=false:=by
 intro f
 induction f with
 | zero=>intro i h; unfold fzN at h; omega
 | succ f ih=>
  intro i h;unfold fzN at h⊢;split at h;rename_i hb;rw[if_pos hb];exact ih (i+1) aA;rename_i hb;rw[if_neg hb];simpa using hb
theorem blkN_bit (w c h:Nat) (hw : 0<w) (hh : 0<h) (hc : 0<c):(XT w c h).testBit 0=true:=by
 obtain⟨h,rfl⟩:∃ k,h=k+1:=⟨h - 1,by omega⟩;rw[XT,fP,fG];simp[hw]
theorem Ry (w c:Nat):∀ h,XT w c h<2 ^ ((h - 1)*c+w):=by
 intro h
 induction h with
 | zero=>exact dZ _
 | succ h ih=>
  rw[XT];have h1 : 2 ^ w - 1<2 ^ ((h+1 - 1)*c+w):=by
   have:=dT (n:=2) aE (show w≤(h+1 - 1)*c+w by omega);have:=dZ w;omega
  refine fV ?_ h1;rw[gA]
  cases h with
  | zero=>rw[XT,Nat.zero_mul]; exact dZ _
  | succ h=>
   have e:(h+1+1 - 1)*c+w=((h+1 - 1)*c+w)+c:=by
    simp only[fS];rw[fX]; omega
   rw[e,Nat.pow_add];exact fH ih (dZ c)
structure Sht.Ok (s:Sht):Prop where
  r : 1≤s.r∧s.r≤6
  c : 1≤s.c∧s.c≤6
  l : 1≤s.l∧s.l≤6
  w : 1≤s.w∧s.w≤6
theorem Sht.Ok.high {s:Sht} (h:s.Ok) (t:Bool) : 1≤s.high t∧s.high t≤6:=by cases t; exact h.l; exact h.w
theorem Sht.Ok.broad {s:Sht} (h:s.Ok) (t:Bool) : 1≤s.broad t∧s.broad t≤6:=by cases t; exact h.w; exact h.l
theorem Sht.Ok.n {s:Sht} (h:s.Ok) : 1≤s.n∧s.n≤36:=by
 have h1:=fQ h.r.1 h.c.1;have h2:=fQ h.r.2 h.c.2;exact⟨h1,h2⟩
def Sht.fz (s:Sht) (b:Nat):Nat:=fzN b s.n 0
theorem Sht.fz_le (s:Sht) (b:Nat):s.fz b≤s.n:=by
 have:=(fzN_ge b s.n 0).2;unfold Sht.fz; omega
theorem Sht.fz_full {s:Sht} {b:Nat} (hb:b<2 ^ s.n) (h:s.fz b=s.n):b=s.full:=by
 refine Nat.eq_of_testBit_eq fun i=>?_
 rw[fG];by_cases hi:i<s.n;rw[decide_eq_true hi];exact RD b s.n 0 i (fO _) (by unfold Sht.fz at h; omega);rw[decide_eq_false hi];exact fL (dX hb (dT aE aA))
theorem Sht.cover_lt {s:Sht} (h:s.Ok) {t:Bool} {n:Nat} (hf:s.fits t n=true):s.cover t n<2 ^ s.n:=by
 unfold Sht.fits at hf;rw[dO,decide_eq_true_iff,decide_eq_true_iff] at hf;unfold Sht.cover;rw[gA];have hb:=Ry (s.broad t) s.c (s.high t);have hd:=gO n s.c;have hh:=h.high t;have hle:(s.high t - 1)*s.c+s.broad t+n≤s.n:=by
  have h1:(n / s.c+(s.high t - 1))*s.c≤(s.r - 1)*s.c:=Nat.mul_le_mul_right _ aA;have h2:(s.r - 1)*s.c+s.c=s.n:=by
   obtain⟨k,hk⟩:∃ k,s.r=k+1:=⟨s.r - 1,by have:=h.r; omega⟩;show _=s.r*s.c;rw[hk,fS,fX,Nat.one_mul]
  rw[fX,Nat.mul_comm (n / s.c)] at h1;omega
 calc XT (s.broad t) s.c (s.high t) * 2 ^ n < 2 ^ ((s.high t - 1) * s.c + s.broad t) * 2 ^ n := fH hb (dZ n)
   _=2 ^ ((s.high t - 1)*s.c+s.broad t+n):=(Nat.pow_add ..).symm
   _≤2 ^ s.n:=dT aE hle
theorem Sht.put_fz {s:Sht} (h:s.Ok) {b x:Nat} {t:Bool} (hb:b<2 ^ s.n) (hn:s.fz b<s.n) (hx:s.put b t (s.fz b)=some x):x<2 ^ s.n∧s.fz b<s.fz x:=by
 unfold Sht.put at hx;split at hx;rename_i hf;split at hx;cases hx;have hc:=Sht.cover_lt h hf;refine⟨fV hb hc,?_⟩;have hbit:(b ||| s.cover t (s.fz b)).testBit (s.fz b)=true:=by
  rw[fP];unfold Sht.cover;rw[Nat.testBit_shiftLeft];simp only[ge_iff_le,fB,decide_true,Nat.sub_self,Bool.true_and];rw[blkN_bit _ _ _ (by have:=h.broad t; omega) (by have:=h.high t; omega) (by have:=h.c; omega),Bool.or_true]
 rcases Nat.lt_trichotomy (s.fz (b ||| s.cover t (s.fz b))) (s.fz b) with q|q|q
 exfalso;have h1:=RC (b ||| s.cover t (s.fz b)) s.n 0 (by unfold Sht.fz at *; omega);have h2:b.testBit (fzN (b ||| s.cover t (s.fz b)) s.n 0)=true:=RD b s.n 0 _ (fO _) q;rw[fP,h2,Bool.true_or] at h1;cases h1;exfalso;have h1:=RC (b ||| s.cover t (s.fz b)) s.n 0 (by unfold Sht.fz at *; omega);have h3:fzN (b ||| s.cover t (s.fz b)) s.n 0=s.fz b:=q;rw[h3,hbit] at h1;cases h1;exact q;cases hx;cases hx
theorem Wx {a a' b b':Option (Nat × Nat)} (h1:a=a') (h2:b=b'):both a b=both a' b':=by rw[h1,h2]
theorem Sht.upr_fuel {s:Sht} (h:s.Ok):∀ (d b:Nat),b<2 ^ s.n→s.n - s.fz b=d→∀ f g,d≤f→d≤g→s.upr f b=s.upr g b:=by
 intro d
 induction d using gU with
 | _ d ih=>
  intro b hb hd f g hf hg;have hle:=s.fz_le b;by_cases hfull:b=s.full
  ·have e:∀ f,s.upr f b=some (0,0):=fun f=>by
    cases f with
    | zero=>rfl
    | succ f=>rw[Sht.upr,if_pos hfull]
   rw[e,e]
  ·have hlt:s.fz b<s.n:=by
    rcases dQ hle with q|q
    exact q;exact absurd (Sht.fz_full hb q) hfull
   obtain⟨f,rfl⟩:∃ k,f=k+1:=⟨f - 1,by omega⟩;obtain⟨g,rfl⟩:∃ k,g=k+1:=⟨g - 1,by omega⟩;rw[Sht.upr,Sht.upr,if_neg hfull,if_neg hfull];have key:∀ t x,s.put b t (fzN b s.n 0)=some x→s.upr f x=s.upr g x:=fun t x hx=>by
    obtain⟨h1,h2⟩:=Sht.put_fz h hb hlt hx;exact ih (s.n - s.fz x) aA x h1 rfl f g aA aA
   have k1:(match s.put b false (fzN b s.n 0) with|some x=>Yd false (s.upr f x)|none=>none)=(match s.put b false (fzN b s.n 0) with|some x=>Yd false (s.upr g x)|none=>none):=by
    cases hp:s.put b false (fzN b s.n 0) with
    | none=>rfl
    | some x=>simp only; rw[key _ _ hp]
   have k2:(match s.put b true (fzN b s.n 0) with|some x=>Yd true (s.upr f x)|none=>none)=(match s.put b true (fzN b s.n 0) with|some x=>Yd true (s.upr g x)|none=>none):=by
    cases hp:s.put b true (fzN b s.n 0) with
    | none=>rfl
    | some x=>simp only; rw[key _ _ hp]
   exact Wx k1 (ite_congr rfl (fun _=>rfl) (fun _=>k2))
end Go.Am
namespace Go.Am
abbrev shL (s:Sht):List AV:=[.int .i64 (s.r:Int),.int .i64 (s.c:Int),.int .i64 (s.l:Int),.int .i64 (s.w:Int)]
def Sht.blk (s:Sht) (t:Bool):Nat:=XT (s.broad t) s.c (s.high t)
abbrev tbL (s:Sht):List AV:=[.int .i64 (s.r:Int),.int .i64 (s.c:Int),.int .i64 (s.l:Int),.int .i64 (s.w:Int),.int .u64 (s.blk false:Int),.int .u64 (s.blk true:Int),.int .u64 (s.full:Int)]
abbrev cdL (row col:Nat) (t:Bool):List AV:=[.int .i64 (row:Int),.int .i64 (col:Int),.bool t]
theorem Sht.lt36 {s:Sht} (h:s.Ok) {b:Nat} (hb:b<2 ^ s.n):b<2 ^ 36:=dX hb (dT aE h.n.2)
theorem VO {x:Nat} (h:x<2 ^ 36):x<Qx .u64:=Nat.lt_trans h aE
theorem Sht.blk_lt {s:Sht} (h:s.Ok) (t:Bool):s.blk t<2 ^ 36:=by
 refine dX (Ry _ _ _) (dT aE ?_);have h1:=h.high t;have h2:=h.broad t;have h3:=h.c;have:=fQ (show s.high t - 1≤5 by omega) h3.2;omega
theorem divmod_lt {n r c:Nat} (hc : 0<c) (h:n<r*c):n / c<r:=(Nat.div_lt_iff_lt_mul hc).2 h
end Go.Am
namespace Go.Am
theorem bit1N {b i:Nat} (h:((b >>> i &&& 1:Nat):Int)=1):b.testBit i=true:=by
 rw[UM] at h;by_cases hb:b.testBit i=true;exact hb;rw[if_neg hb] at h; omega
theorem bit0N {b i:Nat} (h:¬ ((b >>> i &&& 1:Nat):Int)=1):b.testBit i=false:=by
 rw[UM] at h;by_cases hb:b.testBit i=true;rw[if_pos hb] at h; omega;simpa using hb
theorem Sht.fz_set {s:Sht} {b j:Nat} (h:j<s.fz b):b.testBit j=true:=RD b s.n 0 j (fO _) h
theorem Sht.fz_bit {s:Sht} {b:Nat} (hb:b<2 ^ s.n):b.testBit (s.fz b)=false:=by
 rcases dQ (s.fz_le b) with h|h
 exact RC b s.n 0 (by unfold Sht.fz at h; omega);rw[h]; exact fL hb
theorem Sht.put_no {s:Sht} {b n:Nat} {t:Bool} (h:s.fits t n=false):s.put b t n=none:=by unfold Sht.put; rw[h]; rfl
theorem Sht.put_yes {s:Sht} {b n:Nat} {t:Bool} (h:s.fits t n=true):s.put b t n=if b &&& s.blk t <<< n=0 then some (b ||| s.blk t <<< n) else none:=by unfold Sht.put; rw[if_pos h]; rfl
theorem Sht.fits_no1 {s:Sht} {n:Nat} {t:Bool} (h:s.r<n / s.c+s.high t):s.fits t n=false:=by
 unfold Sht.fits;rw[decide_eq_false aA,Bool.false_and]
theorem Sht.fits_no2 {s:Sht} {n:Nat} {t:Bool} (h:s.c<n % s.c+s.broad t):s.fits t n=false:=by
 unfold Sht.fits;rw[decide_eq_false (p:=n % s.c+s.broad t≤s.c) aA,Bool.and_false]
theorem Sht.fits_yes {s:Sht} {n:Nat} {t:Bool} (h1:n / s.c+s.high t≤s.r) (h2:n % s.c+s.broad t≤s.c):s.fits t n=true:=by
 unfold Sht.fits;rw[decide_eq_true h1,decide_eq_true h2]; rfl
theorem put_res {s:Sht} {b n:Nat} {t:Bool} (h:s.fits t n=true):AV.tup [.int .u64 ((b ||| s.blk t <<< n:Nat):Int),.bool (decide (((b &&& s.blk t <<< n:Nat):Int)=0))] = .tup [.int .u64 ((b ||| s.blk t <<< n:Nat):Int),.bool (s.put b t n).isSome]:=by
 rw[Sht.put_yes h];by_cases hz:b &&& s.blk t <<< n=0;rw[if_pos hz,decide_eq_true aA]; rfl;rw[if_neg hz,decide_eq_false aA]; rfl
theorem put_val {s:Sht} {b n x:Nat} {t:Bool} (h:s.fits t n=true) (hx:s.put b t n=some x):b ||| s.blk t <<< n=x:=by
 rw[Sht.put_yes h] at hx;split at hx;exact Option.some.inj hx;cases hx
theorem size_c {h:AHeap} {s:Sht} {t:Bool}:ACalls Go.Proofs.Tryz.prog 265 [.agg (shL s),.bool t] h (fun q h'=>q = .tup [.int .i64 (s.high t:Int),.int .i64 (s.broad t:Int)]∧Keeps h h'):=by
 refine OK 15 [.tmp 4,.tmp 5] Go.Proofs.Tryz.func265 rfl aE rfl rfl (dY rfl) ?_;have hS:=St.refl h;show KA _ 15 _ _ [(0,.agg (shL s)),(1,.bool t)] _;refine be ?_;intro p2 h' hp2 hS;refine Oa [1,2] ?_;refine Oa [2,6] ?_;refine Kz ?_ ?_;intro c6;subst c6;refine bZ ?_;refine cZ ?_;intro p7 hp7;refine Of hp7 (hS.rd 0 rfl) rfl ?_;refine cZ ?_;intro p9 hp9;refine dF ?_;refine cS ?_;exact⟨rfl,hS.keeps⟩;intro c6;have c6:t=false:=by simpa using c6
 subst c6;refine OD [2] ?_;refine bZ ?_;refine cZ ?_;intro p11 hp11;refine Of hp11 (hS.rd 0 rfl) rfl ?_;refine cZ ?_;intro p13 hp13;refine Of hp13 (hS.rd 0 rfl) rfl ?_;refine cS ?_;exact⟨rfl,hS.keeps⟩
theorem cutFirst_c {h:AHeap} {s:Sht} {b:Nat} (hs:s.Ok) (hb:b<2 ^ s.n):ACalls Go.Proofs.Tryz.prog 259 [.agg (tbL s),.int .u64 (b:Int)] h (fun q h'=>q = .tup [.int .i64 ((s.fz b / s.c:Nat):Int),.int .i64 ((s.fz b % s.c:Nat):Int)]∧Keeps h h'):=by
 refine OK 24 [.tmp 4,.tmp 5] Go.Proofs.Tryz.func259 rfl aE rfl rfl (dY rfl) ?_;have hS:=St.refl h;have hsn:=hs.n;have hsc:=hs.c;have hfz:=s.fz_le b;have hb36:=VO (Sht.lt36 hs hb);show KA _ 24 _ _ [(0,.agg (tbL s)),(1,.int .u64 (b:Int))] _;refine be ?_;intro p2 h' hp2 hS;refine Oa [1,2] ?_;refine bg ?_;refine Oz ?_;refine Kd (X:=Nat) (fun i=>[(1,.int .u64 (b:Int)),(2,p2),(6,.int .i64 (i:Int))]) (fun i h'=>i≤s.fz b∧St h h' [⟨p2,0,tbL s,true⟩]) (fun i=>s.fz b - i) 0 ?_ ?_;exact⟨fO _,hS⟩;rintro i h2 ⟨hi,hS⟩;refine Oc ?_;refine KOps.shrN (b) (i) (by first|rfl|(simp; done)|omega) (by first|rfl|(simp; done)|omega) bL ?_;refine KOps.andN (b >>> i) (1) rfl rfl (by rw[Nat.shiftRight_eq_div_pow]; exact Nat.lt_of_le_of_lt (Nat.div_le_self ..) hb36) bL ?_;refine Oa [1,2,6,11] ?_;refine On ?_ ?_;intro c11;refine OD [1,2,6] ?_;refine Oz ?_;refine ce ?_;have hne:i≠s.fz b:=fun e=>by
  have:=Sht.fz_bit hb;rw[←e,bit1N c11] at this;cases this
 exact lpN (i+1) ⟨by omega,hS⟩ aA;intro c11;have he:i=s.fz b:=by
  rcases dQ hi with q|q
  have:=Sht.fz_set q;rw[bit0N c11] at this;cases this;exact q
 subst he;refine bS ?_;refine Ow [2,6] ?_;refine cV ?_;refine cZ ?_;intro p15 hp15;refine Ob hp15 ?_;intro p16 hp16;refine Of hp16 (hS.rd 0 rfl) rfl ?_;refine KOps.divN (s.fz b) s.c rfl rfl aA aA ?_;refine Oe ?_;refine cZ ?_;intro p20 hp20;refine Ob hp20 ?_;intro p21 hp21;refine Of hp21 (hS.rd 0 rfl) rfl ?_;refine KOps.modN (s.fz b) s.c rfl rfl aA aA ?_;refine cS ?_;exact⟨rfl,hS.keeps⟩
theorem Sb {h:AHeap} {s:Sht} {b n row col:Nat} {t:Bool} (hs:s.Ok) (hb:b<2 ^ s.n) (hn:n<s.n) (hrow:n / s.c=row) (hcol:n % s.c=col):ACalls Go.Proofs.Tryz.prog 260 [.agg (tbL s),.int .u64 (b:Int),.agg (cdL row col t)] h (fun q h'=>(∃ v:Nat,q = .tup [.int .u64 (v:Int),.bool (s.put b t n).isSome]∧∀ x,s.put b t n=some x→v=x)∧Keeps h h'):=by
 refine OK 63 [.tmp 6,.tmp 7] Go.Proofs.Tryz.func260 rfl aE rfl rfl (dY rfl) ?_;have hS:=St.refl h;have hsn:=hs.n;have hsc:=hs.c;have hsr:=hs.r;have hhi:=hs.high t;have hbr:=hs.broad t;have hb36:=VO (Sht.lt36 hs hb);have hdm:=gO n s.c;have hml:=Nat.mod_lt n (show 0<s.c by omega);have hdl:=divmod_lt (show 0<s.c by omega) hn;have hno1:s.r<row+s.high t→s.fits t n=false:=fun q=>Sht.fits_no1 aA
 have hno2:s.c<col+s.broad t→s.fits t n=false:=fun q=>Sht.fits_no2 aA
 have hyes:row+s.high t≤s.r→col+s.broad t≤s.c→s.fits t n=true:=fun q r=>Sht.fits_yes aA aA
 rw[hrow] at hdl;rw[hrow,hcol] at hdm;rw[hcol] at hml;have hmul:(row:Int)*(s.c:Int)=((s.c*row:Nat):Int):=by rw[Int.natCast_mul,Int.mul_comm]
 have hcl:=fun hf=>VO (Sht.lt36 hs (Sht.cover_lt hs (t:=t) (n:=n) hf))
 have hbl:=fun t=>VO (Sht.blk_lt hs t)
 show KA _ 63 _ _ [(0,.agg (tbL s)),(1,.int .u64 (b:Int)),(2,.agg (cdL row col t))] _;refine be ?_;intro p3 h' hp3 hS;refine OH hS aD ?_;intro p5 h' hp5 hS;refine Oa [1,3,5] ?_;refine Ot ?_;refine Ob hp3 ?_;intro p12 hp12;refine KOps.loadPart (z:=4) (ys:=[_,_,_,_]) hp12 (hS.rd 1 rfl) aE aK rfl ?_;refine Ob hp5 ?_;intro p14 hp14;refine Of hp14 (hS.rd 0 rfl) rfl ?_;refine Oo rfl (size_c) ?_;rintro _ hx ⟨rfl,hK⟩;replace hS:St _ _ _:=St.trans hS (St.ofK hK);simp only[fA] at hS;refine Oa [1,3,5,8,9] ?_;refine bt ?_;refine Ob hp5 ?_;intro p19 hp19;refine Of hp19 (hS.rd 0 rfl) rfl ?_;refine Oc ?_;refine Ob hp3 ?_;intro p23 hp23;refine Ob hp23 ?_;intro p24 hp24;refine Of hp24 (hS.rd 1 rfl) rfl ?_;refine Oc ?_;refine Ov (dj:=27) rfl rfl false true rfl ?_ ?_;intro g27;have g27:=of_decide_eq_false g27;refine Ob hp5 ?_;intro p28 hp28;refine Oh (dj:=27) rfl rfl ?_;refine Of hp28 (hS.rd 0 rfl) rfl ?_;refine Oc ?_;refine Ob hp3 ?_;intro p32 hp32;refine Oh (dj:=27) rfl rfl ?_;refine Ob hp32 ?_;intro p33 hp33;refine Oh (dj:=27) rfl rfl ?_;refine Of hp33 (hS.rd 1 rfl) rfl ?_;refine Oa [1,3,5,36] ?_;refine On ?_ ?_;intro c36;refine Oa [6,7] ?_;refine Oi ?_;exact⟨⟨0,by rw[Sht.put_no (hno2 aA)]; rfl,fun x hx=>by rw[Sht.put_no (hno2 aA)] at hx; cases hx⟩,hS.keeps⟩;intro c36;refine OD [1,3,5] ?_;refine Ot ?_;refine Ob hp3 ?_;intro p37 hp37;refine QI hp37 (j:=0) rfl aE ?_;intro p38 hp38;refine Of hp38 (hS.rd 1 rfl) rfl ?_;refine Oa [1,3,5,10] ?_;refine bt ?_;refine Ob hp5 ?_;intro p40 hp40;refine Of hp40 (hS.rd 0 rfl) rfl ?_;refine Oj [1,3,5,10,41] ?_;refine Kz ?_ ?_;intro c41;subst c41;refine Kc rfl ?_;refine Ob hp3 ?_;intro p42 hp42;refine QI hp42 (j:=1) rfl aE ?_;intro p43 hp43;refine Of hp43 (hS.rd 1 rfl) rfl ?_;refine Oa [1,3,5,10] ?_;refine Oc ?_;refine Ob hp5 ?_;intro p46 hp46;refine Of hp46 (hS.rd 0 rfl) rfl ?_;refine Ob hp3 ?_;intro p48 hp48;refine Ob hp48 ?_;intro p49 hp49;refine Of hp49 (hS.rd 1 rfl) rfl ?_;refine KOps.mul (by rw[hmul]; omega) (by rw[hmul]; omega) ?_;rw[hmul];refine Ob hp5 ?_;intro p52 hp52;refine Of hp52 (hS.rd 0 rfl) rfl ?_;refine Kx aF aF ?_;refine ZO (s.blk _) (n) rfl aA (by show n≤64; omega) (hcl (hyes aA aA)) ?_;refine cf ?_;exact⟨⟨_,put_res (hyes aA aA),fun x hx=>put_val (hyes aA aA) hx⟩,hS.keeps⟩;intro c41;have c41:t=false:=by simpa using c41
 subst c41;refine OD [1,3,5,10] ?_;refine Oc ?_;refine Ob hp5 ?_;intro p46 hp46;refine Of hp46 (hS.rd 0 rfl) rfl ?_;refine Ob hp3 ?_;intro p48 hp48;refine Ob hp48 ?_;intro p49 hp49;refine Of hp49 (hS.rd 1 rfl) rfl ?_;refine KOps.mul (by rw[hmul]; omega) (by rw[hmul]; omega) ?_;rw[hmul];refine Ob hp5 ?_;intro p52 hp52;refine Of hp52 (hS.rd 0 rfl) rfl ?_;refine Kx aF aF ?_;refine ZO (s.blk _) (n) rfl aA (by show n≤64; omega) (hcl (hyes aA aA)) ?_;refine cf ?_;exact⟨⟨_,put_res (hyes aA aA),fun x hx=>put_val (hyes aA aA) hx⟩,hS.keeps⟩;intro g27;have g27:=of_decide_eq_true g27;refine Oa [1,3,5,36] ?_;refine KW ?_;refine Oa [6,7] ?_;refine Oi ?_;exact⟨⟨0,by rw[Sht.put_no (hno1 aA)]; rfl,fun x hx=>by rw[Sht.put_no (hno1 aA)] at hx; cases hx⟩,hS.keeps⟩
end Go.Am
namespace Go.Am
theorem St.front {h0 h:AHeap} {A F G:List Obj} (st:St h0 h (A ++ (F ++ G))):St h0 h (F ++ (G ++ A)):=by
 have:=st.rot;rwa [fW] at this
theorem St.back {h0 h:AHeap} {A F G:List Obj} (st:St h0 h (F ++ (G ++ A))):St h0 h (A ++ (F ++ G)):=by
 rw[←fW] at st;exact st.rot
theorem next_c {h0 h : AHeap} {s : Sht} {b : Nat} {fa : FuncId} {caps : List AV} {F G : List Obj} {Inv : Nat → List Obj → Prop} (hs : s.Ok) (hb : b < 2 ^ s.n) (hlt : s.fz b < s.n)
    (hA:∀ i,i<2→(i=1→s.l≠s.w)→∀ x,s.put b (decide (i=1)) (s.fz b)=some x→∀ {h0 h:AHeap} {F G:List Obj},Inv i F→St h0 h (F ++ G)→ACalls Go.Proofs.Tryz.prog fa ([.agg (cdL (s.fz b / s.c) (s.fz b % s.c) (decide (i=1))),.int .u64 (x:Int)] ++ caps) h (fun q h'=>∃ c F',q = .bool c∧St h0 h' (F' ++ G)∧(c=true→Inv (i+1) F')∧(c=false→Inv 2 F')))
    (hN:∀ i,i<2→(i=1→s.l≠s.w)→s.put b (decide (i=1)) (s.fz b)=none→∀ F,Inv i F→Inv (i+1) F) (hE:s.l=s.w→∀ F,Inv 1 F→Inv 2 F) (hI:Inv 0 F) (hS:St h0 h (F ++ G)):ACalls Go.Proofs.Tryz.prog 248 [.agg (tbL s),.int .u64 (b:Int),.fn fa caps] h (fun q h'=>q = .tup []∧∃ F',Inv 2 F'∧St h0 h' (F' ++ G)):=by
 refine OK 55 [] Go.Proofs.Tryz.func248 rfl aE rfl rfl (dY rfl) ?_;show KA _ 55 _ _ [(0,.agg (tbL s)),(1,.int .u64 (b:Int)),(2,.fn fa caps)] _;refine be ?_;intro p3 h' hp3 hS;refine Oj [1,2,3] ?_;refine Ot ?_;refine OR hS (i:=0) rfl hp3 aI aE ?_;refine Oe ?_;refine Oo rfl (cutFirst_c hs hb) ?_;rintro _ hx ⟨rfl,hK⟩;replace hS:St _ _ _:=St.trans hS (St.ofK hK);simp only[fA] at hS;refine Oa [1,2,3,6,7] ?_;refine Ot ?_;refine b5 ?_;intro v19 h' hS;refine Qr (hS.rd 0 rfl) ?_;refine Oe ?_;refine bl ?_;refine Oz ?_;refine Kd (X:=Nat × List Obj) (fun x=>[(1,.int .u64 (b:Int)),(2,.fn fa caps),(3,p3),(6,.int .i64 ((s.fz b / s.c:Nat):Int)),(7,.int .i64 ((s.fz b % s.c:Nat):Int)),(19,v19),(20,.int .i64 2),(21,.int .i64 (x.1:Int))]) (fun x h'=>x.1≤2∧Inv x.1 x.2∧St h0 h' (⟨v19,1,[.bool false,.bool true],true⟩::⟨p3,0,tbL s,true⟩::(x.2 ++ G))) (fun x=>2 - x.1) (0,F) ?_ ?_;exact⟨fO _,hI,hS⟩;rintro⟨i,F⟩ h2 ⟨hi,hInv,hS⟩;dsimp only at hi hInv hS⊢;refine bg ?_;refine On ?_ ?_
 ·intro c22;have hget:([.bool false,.bool true]:List AV).getD i .bot = .bool (decide (i=1)):=by
   rcases(show i=0∨i=1 by omega) with rfl|rfl <;> rfl
  refine OD [1,2,3,6,7,19,20,21] ?_;refine cd ?_;refine QY (hS.rd 0 rfl) (j:=i) rfl aC ?_;intro p23 hp23;refine ZT hp23 (hS.rd 0 rfl) aC ?_;rw[hget];refine Oa [1,2,3,6,7,9,19,20,21] ?_;refine Oc ?_;refine OP (zs:=[.int .i64 0,.int .i64 0,.bool false]) (cs:=[_,_,_]) aB aI aB (.cons (off:=0) (s:=1) aB (AV.cells_one aG) rfl aE (.cons (off:=1) (s:=1) aB (AV.cells_one aG) rfl aE (.cons (off:=2) (s:=1) aB (AV.cells_one aG) rfl aE .nil))) aI ?_;refine O6 hS ?_;intro p10 h' hp10 hS;refine O8 hS rfl (i:=0) rfl hp10 aD aI aI aE ?_;intro h' hS;simp only[List.set_cons_zero,List.set_cons_succ,fR] at hS;refine Oj [1,2,3,6,7,9,10,19,20,21] ?_;refine Oc ?_;refine Ov (dj:=30) rfl rfl true false rfl ?_ ?_
  ·intro g30;refine Ob hp3 ?_;intro p31 hp31;refine Oh (dj:=30) rfl rfl ?_;refine Ob hp31 ?_;intro p32 hp32;refine Oh (dj:=30) rfl rfl ?_;refine Of hp32 (hS.rd 2 rfl) rfl ?_;refine Oh (dj:=30) rfl rfl ?_;refine Ob hp3 ?_;intro p34 hp34;refine Oh (dj:=30) rfl rfl ?_;refine Ob hp34 ?_;intro p35 hp35;refine Oh (dj:=30) rfl rfl ?_;refine Of hp35 (hS.rd 2 rfl) rfl ?_;refine Oa [1,2,3,6,7,10,19,20,21,31,32,33,34,35,36,37,38] ?_;refine On ?_ ?_;intro c38;refine Ke ?_;refine QF ?_;refine QC ?_;refine QF ?_;refine lpQ.ret ?_;refine QC ?_;refine fnQ.ret0 ?_;have hi1:i=1:=of_decide_eq_true g30;subst hi1;exact⟨rfl,F,hE aA _ hInv,St.drop (A:=[_,_,_]) hS⟩
   ·intro c38;refine cq ?_;rintro _ hx ⟨⟨v,rfl,hv⟩,hK⟩;replace hS:St _ _ _:=St.trans hS (St.ofK hK);simp only[fA] at hS;refine Oa [1,2,3,6,7,10,11,12,19,20,21,31,32,33,34,35,36,37] ?_;refine Ot ?_;have hnone:(s.put b (decide (i=1)) (s.fz b)).isSome=false→s.put b (decide (i=1)) (s.fz b)=none:=fun q=>by
     cases hp:s.put b (decide (i=1)) (s.fz b) with
     | none=>rfl
     | some x=>rw[hp] at q; cases q
    refine Oc ?_;refine Ov (dj:=47) rfl rfl true false rfl ?_ ?_;intro g47;obtain⟨x,hpx⟩:=fJ.1 g47;obtain rfl:=hv x hpx;refine Oc ?_;refine OR hS (i:=0) rfl hp10 aI aE ?_;refine Oc ?_;refine Oo rfl (hA i aA (fun q e=>by first|exact c38 (by rw[e])|exact absurd q (of_decide_eq_false g30)) _ hpx hInv (St.front (A:=[_,_,_]) hS)) ?_;rintro _ h9 ⟨cc,F2,rfl,hS9,hct,hcf⟩;have hS0:=St.back (A:=[_,_,_]) hS9;clear hS;have hS:=hS0;clear hS0;simp only[gE,fA] at hS;refine dE ?_;refine Kz ?_ ?_;intro c53;refine Ke ?_;refine QC ?_;refine QF ?_;refine lpQ.ret ?_;refine QC ?_;refine fnQ.ret0 ?_;exact⟨rfl,F2,hcf (by simpa using c53),St.drop (A:=[_,_,_]) hS⟩;intro c53;refine cR ?_;exact lpN (i+1,F2) ⟨by dsimp only; omega,hct (by simpa using c53),St.tail hS⟩ aJ;intro g47;refine dE ?_;refine OM ?_;refine cR ?_;exact lpN (i+1,F) ⟨by dsimp only; omega,hN i aA (fun q e=>by first|exact c38 (by rw[e])|exact absurd q (of_decide_eq_false g30)) (hnone g47) _ hInv,St.tail hS⟩ aJ
  ·intro g30;refine Oa [1,2,3,6,7,10,19,20,21,31,32,33,34,35,36,37,38] ?_;refine OM ?_;refine cq ?_;rintro _ hx ⟨⟨v,rfl,hv⟩,hK⟩;replace hS:St _ _ _:=St.trans hS (St.ofK hK);simp only[fA] at hS;refine Oa [1,2,3,6,7,10,11,12,19,20,21,31,32,33,34,35,36,37] ?_;refine Ot ?_;have hnone:(s.put b (decide (i=1)) (s.fz b)).isSome=false→s.put b (decide (i=1)) (s.fz b)=none:=fun q=>by
    cases hp:s.put b (decide (i=1)) (s.fz b) with
    | none=>rfl
    | some x=>rw[hp] at q; cases q
   refine Oc ?_;refine Ov (dj:=47) rfl rfl true false rfl ?_ ?_;intro g47;obtain⟨x,hpx⟩:=fJ.1 g47;obtain rfl:=hv x hpx;refine Oc ?_;refine OR hS (i:=0) rfl hp10 aI aE ?_;refine Oc ?_;refine Oo rfl (hA i aA (fun q e=>by first|exact c38 (by rw[e])|exact absurd q (of_decide_eq_false g30)) _ hpx hInv (St.front (A:=[_,_,_]) hS)) ?_;rintro _ h9 ⟨cc,F2,rfl,hS9,hct,hcf⟩;have hS0:=St.back (A:=[_,_,_]) hS9;clear hS;have hS:=hS0;clear hS0;simp only[gE,fA] at hS;refine dE ?_;refine Kz ?_ ?_;intro c53;refine Ke ?_;refine QC ?_;refine QF ?_;refine lpQ.ret ?_;refine QC ?_;refine fnQ.ret0 ?_;exact⟨rfl,F2,hcf (by simpa using c53),St.drop (A:=[_,_,_]) hS⟩;intro c53;refine cR ?_;exact lpN (i+1,F2) ⟨by dsimp only; omega,hct (by simpa using c53),St.tail hS⟩ aJ;intro g47;refine dE ?_;refine OM ?_;refine cR ?_;exact lpN (i+1,F) ⟨by dsimp only; omega,hN i aA (fun q e=>by first|exact c38 (by rw[e])|exact absurd q (of_decide_eq_false g30)) (hnone g47) _ hInv,St.tail hS⟩ aJ
 intro c22;refine cL ?_;refine KH ?_;have hi2:i=2:=by omega
 subst hi2;exact⟨rfl,F,hInv,St.drop (A:=[_,_]) hS⟩
end Go.Am
namespace Go.Am
def V4 (f : Nat → Nat) : Option Nat → Nat
  | some x=>f x
  | none=>0
def Sht.cnt (s : Sht) : Nat → Nat → Nat
  | 0,_=>1
  | f+1,b=>if b=s.full then 1 else
      V4 (s.cnt f) (s.put b false (fzN b s.n 0))+(if s.l=s.w then 0 else V4 (s.cnt f) (s.put b true (fzN b s.n 0)))
theorem Sht.cnt_le (s:Sht):∀ f b,s.cnt f b≤2 ^ f:=by
 intro f
 induction f with
 | zero=>intro b; exact fB _
 | succ f ih=>
  intro b;rw[Sht.cnt];have hp:=dZ f;have key:∀ t,V4 (s.cnt f) (s.put b t (fzN b s.n 0))≤2 ^ f:=by
   intro t
   cases s.put b t (fzN b s.n 0) with
   | none=>exact fO _
   | some x=>exact ih x
  rw[Nat.pow_succ];split;omega;have h1:=key false;have h2:=key true;split <;> omega
def Sht.uprS (s:Sht) (b:Nat):Option (Nat × Nat):=s.upr 40 b
def Sht.cntS (s:Sht) (b:Nat):Nat:=s.cnt 40 b
theorem Sht.cntS_le (s:Sht) (b:Nat):s.cntS b≤2 ^ 40:=s.cnt_le 40 b
theorem Sht.cnt_fuel {s:Sht} (h:s.Ok):∀ (d b:Nat),b<2 ^ s.n→s.n - s.fz b=d→∀ f g,d≤f→d≤g→s.cnt f b=s.cnt g b:=by
 intro d
 induction d using gU with
 | _ d ih=>
  intro b hb hd f g hf hg;have hle:=s.fz_le b;by_cases hfull:b=s.full
  ·have e:∀ f,s.cnt f b=1:=fun f=>by
    cases f with
    | zero=>rfl
    | succ f=>rw[Sht.cnt,if_pos hfull]
   rw[e,e]
  ·have hlt:s.fz b<s.n:=by
    rcases dQ hle with q|q
    exact q;exact absurd (Sht.fz_full hb q) hfull
   obtain⟨f,rfl⟩:∃ k,f=k+1:=⟨f - 1,by omega⟩;obtain⟨g,rfl⟩:∃ k,g=k+1:=⟨g - 1,by omega⟩;rw[Sht.cnt,Sht.cnt,if_neg hfull,if_neg hfull];have key:∀ t,V4 (s.cnt f) (s.put b t (fzN b s.n 0))=V4 (s.cnt g) (s.put b t (fzN b s.n 0)):=fun t=>by
    cases hp:s.put b t (fzN b s.n 0) with
    | none=>rfl
    | some x=>
     obtain⟨h1,h2⟩:=Sht.put_fz h hb hlt hp;exact ih (s.n - s.fz x) aA x h1 rfl f g aA aA
   rw[key false,key true]
def Sht.up1 (s:Sht) (b:Nat) (t:Bool):Option (Nat × Nat):=match s.put b t (s.fz b) with|some x=>Yd t (s.uprS x)|none=>none
def Sht.ct1 (s:Sht) (b:Nat) (t:Bool):Nat:=V4 s.cntS (s.put b t (s.fz b))
theorem Sht.cntS_full {s:Sht}:s.cntS s.full=1:=by unfold Sht.cntS; rw[Sht.cnt,if_pos rfl]
theorem Sht.fz_lt {s:Sht} {b:Nat} (hb:b<2 ^ s.n) (hf:b≠s.full):s.fz b<s.n:=by
 rcases dQ (s.fz_le b) with q|q
 exact q;exact absurd (Sht.fz_full hb q) hf
theorem Sht.upr_step {s : Sht} (h : s.Ok) {b : Nat} (hb : b < 2 ^ s.n) (hf : b ≠ s.full) (f : Nat) (hn : s.n ≤ f) :
    s.upr (f+1) b=both (match s.put b false (s.fz b) with|some x=>Yd false (s.upr (f+1) x)|none=>none) (if s.l=s.w then none else match s.put b true (s.fz b) with|some x=>Yd true (s.upr (f+1) x)|none=>none):=by
 have hlt:=Sht.fz_lt hb hf;rw[Sht.upr,if_neg hf];have k1:∀ x,s.put b false (s.fz b)=some x→s.upr f x=s.upr (f+1) x:=fun x hx=>by
  obtain⟨h1,h2⟩:=Sht.put_fz h hb hlt hx;exact Sht.upr_fuel h (s.n - s.fz x) x h1 rfl _ _ aA aA
 have k2:∀ x,s.put b true (s.fz b)=some x→s.upr f x=s.upr (f+1) x:=fun x hx=>by
  obtain⟨h1,h2⟩:=Sht.put_fz h hb hlt hx;exact Sht.upr_fuel h (s.n - s.fz x) x h1 rfl _ _ aA aA
 show both (match s.put b false (s.fz b) with|some x=>Yd false (s.upr f x)|none=>none) (if s.l=s.w then none else match s.put b true (s.fz b) with|some x=>Yd true (s.upr f x)|none=>none)=_;refine Wx ?_ (ite_congr rfl (fun _=>rfl) fun _=>?_)
 ·cases hp:s.put b false (s.fz b) with
  | none=>rfl
  | some x=>simp only; rw[k1 x hp]
 ·cases hp:s.put b true (s.fz b) with
  | none=>rfl
  | some x=>simp only; rw[k2 x hp]
theorem Sht.uprS_step {s:Sht} (h:s.Ok) {b:Nat} (hb:b<2 ^ s.n) (hf:b≠s.full):s.uprS b=both (s.up1 b false) (if s.l=s.w then none else s.up1 b true):=
  Sht.upr_step h hb hf 39 (by have:=h.n; omega)
theorem Sht.cnt_step {s : Sht} (h : s.Ok) {b : Nat} (hb : b < 2 ^ s.n) (hf : b ≠ s.full) (f : Nat) (hn : s.n ≤ f) :
    s.cnt (f+1) b=V4 (s.cnt (f+1)) (s.put b false (s.fz b))+(if s.l=s.w then 0 else V4 (s.cnt (f+1)) (s.put b true (s.fz b))):=by
 have hlt:=Sht.fz_lt hb hf;have key:∀ t,V4 (s.cnt f) (s.put b t (s.fz b))=V4 (s.cnt (f+1)) (s.put b t (s.fz b)):=fun t=>by
  cases hp:s.put b t (s.fz b) with
  | none=>rfl
  | some x=>
   obtain⟨h1,h2⟩:=Sht.put_fz h hb hlt hp;exact Sht.cnt_fuel h (s.n - s.fz x) x h1 rfl f (f+1) aA aA
 rw[←key,←key,Sht.cnt,if_neg hf];rfl
theorem Sht.cntS_step {s:Sht} (h:s.Ok) {b:Nat} (hb:b<2 ^ s.n) (hf:b≠s.full):s.cntS b=s.ct1 b false+(if s.l=s.w then 0 else s.ct1 b true):=
  Sht.cnt_step h hb hf 39 (by have:=h.n; omega)
abbrev ctA (m:Nat):AV:=.int .i64 (m:Int)
def OkL {V:Type} (n:Nat) (f:Nat→V) (L:List (Int × V)):Prop:=∀ (b:Nat) (v:V),b<2 ^ n→OE L (b:Int)=some v→v=f b
theorem OkL.nil {V:Type} {n:Nat} {f:Nat→V}:OkL n f []:=fun _ _ _ h=>by cases h
theorem OkL.put {V:Type} {n:Nat} {f:Nat→V} {L:List (Int × V)} (h:OkL n f L) (b:Nat):OkL n f (Qn L (b:Int) (f b)):=by
 intro c v hc hv;rw[Ua] at hv;split at hv;rename_i e;cases hv;rw[Int.ofNat_inj.1 e];exact h c v hc hv
theorem St.cells {h0 h:AHeap} {p:AV} {s:Nat} {cs cs':List AV} {tip:Bool} {rest:List Obj} (e:cs=cs') (st:St h0 h (⟨p,s,cs,tip⟩::rest)):St h0 h (⟨p,s,cs',tip⟩::rest):=e ▸ st
end Go.Am
