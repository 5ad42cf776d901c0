/-
  The abstract machine: drawn regions and the interpreter.
  Conditions: none.
-/
import Derived.Test.YtdfhmdhjeiipfaaGreatDoorAmA
open Array renaming getElem?_eq_getElem → dO, getElem?_eq_some_iff → dU, getD_eq_getD_getElem? → dT, getElem?_toList → dZ, length_toList → fH
open Bool renaming and_eq_true → dP, or_eq_true → dQ, false_or → fU, or_eq_false_iff → fC, not_true → fM, and_self → fX, rec → gC
open Classical renaming byContradiction → dV
open Go.Region renaming binds → dR, wanted → fO, ready → fF
open List renaming getD_eq_getElem?_getD → dY, range → dW, getElem?_cons_succ → fE, contains_iff_mem → fY, getElem?_set_ne → fB, length_append → fJ, getElem?_append_right → fL, getElem?_append_left → fN, getElem?_eq_getElem → fP, all_eq_true → fQ, getElem?_set_self → fT, getElem?_eq_none → fV, countP_singleton → fW, countP_append → gA, getElem?_set → gE, rec → gY, length_set → gB
open Nat renaming le_refl → dS, zero_le → dX, lt_of_lt_of_le → fA, le_trans → fD, zero_add → fG, lt_or_eq_of_le → fK, add_sub_cancel_left → fR, strongRecOn → fS, lt_trichotomy → gI, mul_add → gO, lt_of_not_le → gU
open Option renaming bind_eq_some_iff → fI, bind_eq_bind → fZ
namespace Go.Am
theorem HRel.down {φ:Emb} {h h':AHeap} {w:World} (e:HExt h h') (g:HGrow h h') (wf:WFH h) (r:HRel φ h' w):HRel φ h w:=by
 have up:∀ {b:Nat} {B:Blk},h.get b=some B→h'.get b=some B:=fun{b B} hB=>by rw[e.get b (AHeap.get_lt hB)]; exact hB
 refine⟨?_,?_,?_,?_,?_,?_,?_,wf⟩;intro x hx; exact r.glob x (by rw[g.globs]; exact hx);exact r.lt;intro b k i z B hb hB hv;exact r.blk b k i z B hb (up hB) (by rw[e.valid b (AHeap.get_lt hB)]; exact hv);intro b k i z F p cs hb hB; exact r.arr b k i z F p cs hb (up hB);intro b b' k i i' z z' F F' p p' cs cs' h1 h2 h3 h4; exact r.one b b' k i i' z z' F F' p p' cs cs' h1 h2 (up h3) (up h4);intro b b' k i i' z z' F p p' cs cs' h1 h2 h3 h4; exact r.sep b b' k i i' z z' F p p' cs cs' h1 h2 (up h3) (up h4);intro b b' k i i' z z' F0 x0 B h1 h2 h3 h4; exact r.map b b' k i i' z z' F0 x0 B h1 h2 (up h3) (up h4)
theorem HRel.up {φ:Emb} {h h':AHeap} {w:World} (e:HExt h h') (g:HGrow h h') (wf:WFH h') (hno:∀ b,h.next≤b→b<h'.next→φ b=none) (r:HRel φ h w):HRel φ h' w:=by
 have down:∀ {b k i z:Nat} {B:Blk},φ b=some (k,i,z)→h'.get b=some B→h.get b=some B∧b<h.next:=by
  intro b k i z B hb hB;have hlt:b<h.next:=by
   apply gU;intro hle;rw[hno b hle (AHeap.get_lt hB)] at hb; cases hb
  exact⟨by rw[←e.get b hlt]; exact hB,hlt⟩
 refine⟨?_,?_,?_,?_,?_,?_,?_,wf⟩;intro x hx; exact r.glob x (by rw[g.globs] at hx; exact hx);exact r.lt;intro b k i z B hb hB hv;obtain⟨h1,h2⟩:=down hb hB;exact r.blk b k i z B hb h1 (by rw[←e.valid b h2]; exact hv);intro b k i z F p cs hb hB; exact r.arr b k i z F p cs hb (down hb hB).1;intro b b' k i i' z z' F F' p p' cs cs' h1 h2 h3 h4; exact r.one b b' k i i' z z' F F' p p' cs cs' h1 h2 (down h1 h3).1 (down h2 h4).1;intro b b' k i i' z z' F p p' cs cs' h1 h2 h3 h4; exact r.sep b b' k i i' z z' F p p' cs cs' h1 h2 (down h1 h3).1 (down h2 h4).1;intro b b' k i i' z z' F0 x0 B h1 h2 h3 h4; exact r.map b b' k i i' z z' F0 x0 B h1 h2 (down h1 h3).1 (down h2 h4).1
structure Own (φ:Emb) (w:World) (b:Nat) (cs:List AV):Prop where
  lies:∃ k z c e,φ b=some (k,0,z)∧w.heap[k]? = some (.cells c e (0,0))∧c.size=z∧cs.length≤z∧CellsAt φ cs c 0∧∀ b' i' z',φ b'=some (k,i',z')→b'=b
theorem HRel.add {φ:Emb} {h:AHeap} {w:World} {cs:List AV} (ho:Own φ w h.next cs) (r:HRel φ h w):HRel φ (h.alloc cs) w:=by
 obtain⟨k,z,c,e,hφ,hk,hz,hlen,hc,hown⟩:=ho.lies;have hcase:∀ b,b=h.next∨(b≠h.next∧∀ k' i z',φ b=some (k',i,z')→k'≠k):=by
  intro b;by_cases hb:b=h.next;exact .inl hb;refine .inr ⟨hb,?_⟩;rintro k' i z' h1 rfl;exact hb (hown b i z' h1)
 refine⟨?_,?_,?_,?_,?_,?_,?_,?_⟩;intro g hg; exact r.glob g hg;intro b k' i z' hb;rcases hcase b with rfl|⟨hne,_⟩
 rw[hφ] at hb; cases hb; exact(dU.1 hk).1;exact r.lt b k' i z' hb;intro b k' i z' B hb hB hv;rw[AHeap.get_alloc] at hB;rcases hcase b with rfl|⟨hne,_⟩
 rw[if_pos rfl] at hB; cases hB;rw[hφ] at hb; cases hb;exact⟨c,e,.of hk,hz,hc⟩;rw[if_neg hne] at hB;rw[AHeap.valid_alloc_old h cs (AHeap.get_lt hB) r] at hv;exact r.blk b k' i z' B hb hB hv;intro b k' i z' F p cs' hb hB;rw[AHeap.get_alloc] at hB;rcases hcase b with rfl|⟨hne,_⟩
 rw[if_pos rfl] at hB; cases hB;rw[hφ] at hb; cases hb;exact⟨c,e,.of hk,hz,by omega⟩;rw[if_neg hne] at hB; exact r.arr b k' i z' F p cs' hb hB;intro b b' k' i i' z1 z2 F F' p p' cs1 cs2 h1 h2 h3 h4;rw[AHeap.get_alloc] at h3 h4;rcases hcase b with rfl|⟨hne,hk1⟩ <;> rcases hcase b' with rfl|⟨hne',hk2⟩
 rw[if_pos rfl] at h3 h4; cases h3; cases h4; rw[h1] at h2; cases h2; exact⟨rfl,rfl⟩;rw[hφ] at h1; cases h1; exact absurd rfl (hk2 _ _ _ h2);rw[hφ] at h2; cases h2; exact absurd rfl (hk1 _ _ _ h1);rw[if_neg hne] at h3; rw[if_neg hne'] at h4;exact r.one b b' k' i i' z1 z2 F F' p p' cs1 cs2 h1 h2 h3 h4;intro b b' k' i i' z1 z2 F p p' cs1 cs2 h1 h2 h3 h4;rw[AHeap.get_alloc] at h3 h4;rcases hcase b with rfl|⟨hne,hk1⟩ <;> rcases hcase b' with rfl|⟨hne',hk2⟩
 rw[if_pos rfl] at h4; cases h4;rw[hφ] at h1; cases h1; exact absurd rfl (hk2 _ _ _ h2);rw[if_pos rfl] at h4; cases h4;rw[if_neg hne] at h3; rw[if_neg hne'] at h4;exact r.sep b b' k' i i' z1 z2 F p p' cs1 cs2 h1 h2 h3 h4;intro b b' k' i i' z1 z2 F0 x0 B h1 h2 h3 h4;rw[AHeap.get_alloc] at h3 h4;rcases hcase b with rfl|⟨hne,hk1⟩ <;> rcases hcase b' with rfl|⟨hne',hk2⟩
 rfl;rw[if_pos rfl] at h3; cases h3;rw[hφ] at h2; cases h2; exact absurd rfl (hk1 _ _ _ h1);rw[if_neg hne] at h3; rw[if_neg hne'] at h4;exact r.map b b' k' i i' z1 z2 F0 x0 B h1 h2 h3 h4;intro b F p cs' hg;rw[AHeap.get_alloc] at hg;rw[AHeap.fam_alloc];split at hg
 cases hg; exact⟨_,if_pos rfl,by simp⟩
 obtain⟨f,hf,hl⟩:=r.ext b F p cs' hg;have:=AHeap.fam_lt hf;exact⟨f,by rw[if_neg aA]; exact hf,hl⟩
theorem HExt.alloc {φ:Emb} {h:AHeap} {w:World} (r:HRel φ h w) (cs:List AV):HExt h (h.alloc cs):=
  ⟨by rw[AHeap.next_alloc]; omega,fun b hb=>by rw[AHeap.get_alloc,if_neg aA],fun _ hb=>AHeap.valid_alloc_old h cs hb r⟩
theorem HExt.alloc' {h:AHeap} (wf:WFH h) (cs:List AV):HExt h (h.alloc cs):=by
 refine⟨by rw[AHeap.next_alloc]; omega,fun b hb=>by rw[AHeap.get_alloc,if_neg aA],?_⟩;intro b hb;simp only[AHeap.valid,AHeap.get_alloc,if_neg (show¬ b=h.next by omega)]
 cases hg:h.get b with
 | none=>rfl
 | some B=>
  cases B with
  | obj _ _=>rfl
  | cells F p cs'=>
   cases F with
   | none=>rfl
   | some F=>
    obtain⟨f,hf,_⟩:=wf b F p cs' hg;have:=AHeap.fam_lt hf;simp only[AHeap.fam_alloc,if_neg (show¬ F=h.nfam by omega)]
theorem HRel.define {φ : Emb} {h : AHeap} {w : World} {b : Nat} {cs : List AV} {c : Array Value} {e : TypeId} (r : HRel φ h w) (hφ : φ b = none)
    (hget:h.next≤b∨∃ F,h.get b=some (.cells (some F) 0 cs)) (hlen:cs.length≤c.size) (hc:CellsAt φ cs c 0) :
    HRel (φ.upd b (w.heap.size,0,c.size)) h (w.alloc (.cells c e)):=by
 have hle:=Emb.le_upd (φ:=φ) (w.heap.size,0,c.size) hφ;have hold:∀ k,k<w.heap.size→(w.alloc (.cells c e)).heap[k]? = w.heap[k]?:=fun k hk=>heap_alloc_old w _ hk
 have hnew:(w.alloc (.cells c e)).heap[w.heap.size]? = some (.cells c e (0,0)):=heap_alloc_new w _;have hcase:∀ b' k i z,φ.upd b (w.heap.size,0,c.size) b'=some (k,i,z)→(b'=b∧k=w.heap.size∧i=0∧z=c.size)∨(b'≠b∧φ b'=some (k,i,z)):=by
  intro b' k i z hb;by_cases hbn:b'=b;subst hbn; rw[Emb.upd_same] at hb; cases hb; exact .inl ⟨rfl,rfl,rfl,rfl⟩;rw[Emb.upd_other φ _ hbn] at hb; exact .inr ⟨hbn,hb⟩
 have hthe:∀ B,h.get b=some B→∃ F,B = .cells (some F) 0 cs:=by
  intro B hB;rcases hget with hg|⟨F,hg⟩
  have:=AHeap.get_lt hB; omega;rw[hB] at hg; cases hg; exact⟨F,rfl⟩
 refine⟨?_,?_,?_,?_,?_,?_,?_,r.ext⟩;intro g hg;obtain⟨z,hz⟩:=r.glob g hg;exact⟨z,hle _ _ hz⟩;intro b' k i z hb;simp only[World.size_alloc];rcases hcase b' k i z hb with ⟨_,rfl,_⟩|⟨hne,hb'⟩
 omega;have:=r.lt b' k i z hb'; omega;intro b' k i z B hb hg hv;rcases hcase b' k i z hb with ⟨rfl,rfl,rfl,rfl⟩|⟨hne,hb'⟩
 obtain⟨F,rfl⟩:=hthe B hg;exact⟨c,e,.of hnew,rfl,fun j x hx=>let⟨v,h1,h2⟩:=hc j x hx; ⟨v,h1,h2.mono hle⟩⟩;exact((r.blk b' k i z B hb' hg hv).world (hold k (r.lt b' k i z hb'))).mono hle;intro b' k i z F p cs' hb hg;rcases hcase b' k i z hb with ⟨rfl,rfl,rfl,rfl⟩|⟨hne,hb'⟩
 obtain⟨F',hF⟩:=hthe _ hg;cases hF;exact⟨c,e,.of hnew,rfl,by omega⟩;obtain⟨c',e',h1,h2⟩:=r.arr b' k i z F p cs' hb' hg;exact⟨c',e',h1.old (hold k (r.lt b' k i z hb')),h2⟩;intro b1 b2 k i1 i2 z1 z2 F1 F2 p1 p2 cs1 cs2 q1 q2 g1 g2;rcases hcase b1 k i1 z1 q1 with ⟨rfl,rfl,rfl,rfl⟩|⟨hne,h1⟩ <;> rcases hcase b2 _ i2 z2 q2 with ⟨rfl,hk,rfl,rfl⟩|⟨hne',h1'⟩
 rw[g1] at g2; cases g2; exact⟨rfl,rfl⟩;have:=r.lt b2 _ i2 z2 h1'; omega;have:=r.lt b1 _ i1 z1 h1; omega;exact r.one b1 b2 k i1 i2 z1 z2 F1 F2 p1 p2 cs1 cs2 h1 h1' g1 g2;intro b1 b2 k i1 i2 z1 z2 F1 p1 p2 cs1 cs2 q1 q2 g1 g2;rcases hcase b1 k i1 z1 q1 with ⟨rfl,rfl,rfl,rfl⟩|⟨hne,h1⟩ <;> rcases hcase b2 _ i2 z2 q2 with ⟨rfl,hk,rfl,rfl⟩|⟨hne',h1'⟩
 rw[g1] at g2; cases g2;have:=r.lt b2 _ i2 z2 h1'; omega;have:=r.lt b1 _ i1 z1 h1; omega;exact r.sep b1 b2 k i1 i2 z1 z2 F1 p1 p2 cs1 cs2 h1 h1' g1 g2;intro b1 b2 k i1 i2 z1 z2 F0 x0 B q1 q2 g1 g2;rcases hcase b1 k i1 z1 q1 with ⟨rfl,rfl,rfl,rfl⟩|⟨hne,h1⟩ <;> rcases hcase b2 _ i2 z2 q2 with ⟨rfl,hk,rfl,rfl⟩|⟨hne',h1'⟩
 rfl;have:=r.lt b2 _ i2 z2 h1'; omega;have:=r.lt b1 _ i1 z1 h1; omega;exact r.map b1 b2 k i1 i2 z1 z2 F0 x0 B h1 h1' g1 g2
theorem wp_some {P:Program} {o:Oper} {a:Act} {w:World} {K:Act→World→Prop} (h:o.wp P a w K (fun _ _ _=>False)):∃ a' w',K a' w':=by
 unfold Oper.wp Oper.upon at h;split at h;exact⟨_,_,h⟩;exact⟨_,_,h⟩;exact⟨_,_,h⟩
 ·obtain⟨e,w',fr,hR,_⟩:=h []
  cases e with
  | returned v=>exact⟨_,_,hR⟩
  | panicked c=>exact hR.elim
  | outgrown=>obtain⟨_,_,hf⟩:=hR; exact hf.elim
 obtain⟨v,w',hR,_⟩:=h default [];exact⟨_,_,hR⟩;exact h.elim;exact h.elim
end Go.Am
namespace Go.Am
inductive Dep (ops:Array Oper):Nat→Nat→Prop where
  | edge (i:Nat) (o:Oper) (e:Edge) (ho:ops[i]? = some o) (he:e∈o.after) (hb:dR .any e=true):Dep ops i e.on
  | trans (i j k:Nat) (h:Dep ops i j) (h':Dep ops j k):Dep ops i k
structure RgOk (sz:Nat) (ops:Array Oper) (ex:List Nat) (st:List (Nat × Nat)):Prop where
  ntx:ex≠TXT
  back:∀ (i:Nat) (o:Oper) e,ops[i]? = some o→e∈o.after→dR .any e=true→e.on<i
  dst:∀ (i:Nat) (o:Oper) d,ops[i]? = some o→o.dst=some d→d<sz
  inj:∀ (i j:Nat) (oi oj:Oper) d,ops[i]? = some oi→ops[j]? = some oj→oi.dst=some d→oj.dst=some d→i=j
  opnd:∀ (i j:Nat) (oi oj:Oper) t,ops[i]? = some oi→ops[j]? = some oj→.tmp t∈oi.op.operands→oj.dst=some t→(j<i∧Dep ops i j)∨(i<j∧Dep ops j i)
  guard:∀ (i:Nat) (o:Oper) g want,ops[i]? = some o→o.guard=some (g,want)→Dep ops i g
  chain:∀ (i j:Nat) (oi oj:Oper),ops[i]? = some oi→ops[j]? = some oj→clsOf oi.op = .chain→clsOf oj.op = .chain→j<i→Dep ops i j
  read:∀ (c r:Nat) (oc or:Oper),ops[c]? = some oc→ops[r]? = some or→clsOf oc.op = .chain→clsOf or.op = .read→ex.contains c=true∨Dep ops c r∨Dep ops r c∨(c,r)∈st
  allo:∀ (c j:Nat) (oc oj:Oper),ops[c]? = some oc→ops[j]? = some oj→clsOf oc.op = .chain→clsOf oj.op = .allo→j<c→ex.contains c=true∨Dep ops c j∨(c,j)∈st
def TS (P:Program) (ops:Array Oper) (ex:List Nat) (i:Nat) (o:Oper) (fr:List AV) (h:AHeap) (v:AV) (fr':List AV) (h':AHeap):Prop:=
  fr'=setF fr o.dst v∧
  ((∃ j want b, o.guard = some (j, want) ∧ guardA ops fr j = some b ∧ b ≠ some want ∧ v = .tup [] ∧ h' = h) ∨
   ((o.guard=none∨∃ j want,o.guard=some (j,want)∧guardA ops fr j=some (some want))∧SemStep P (evalA h.globs fr) o h v h'∧(ex.contains i=true→WFH h→HExt h h')))
theorem aops_text {P : Program} {ops : Array Oper} {ex : List Nat} {K : List AV → AHeap → Prop} (hntx : ex ≠ TXT) : ∀ (l : List Oper) (k : Nat) (fr : List AV) (h : AHeap), (∀ i, l[i]? = ops[k + i]?) → AOps P ops ex K k l fr h →
    ∃ (vs : Nat → AV) (frs : Nat → List AV) (hs : Nat → AHeap), frs k = fr ∧ hs k = h ∧ K (frs (k + l.length)) (hs (k + l.length)) ∧
      ∀ i o,k≤i→i<k+l.length→ops[i]? = some o→TS P ops ex i o (frs i) (hs i) (vs i) (frs (i+1)) (hs (i+1)):=by
 intro l
 induction l with
 | nil=>intro k fr h _ hk; exact⟨fun _=>.bot,fun _=>fr,fun _=>h,rfl,rfl,hk,fun i o h1 h2=>by simp at h2; omega⟩
 | cons o os ih=>
  intro k fr h hl hA;have ho:ops[k]? = some o:=by have:=hl 0; simpa using this.symm
  have hl':∀ i,os[i]? = ops[k+1+i]?:=by
   intro i;have:=hl (i+1);simp only[fE] at this;rw[this]; congr 1; omega
  have hglue : ∀ v h1, TS P ops ex k o fr h v (setF fr o.dst v) h1 → AOps P ops ex K (k + 1) os (setF fr o.dst v) h1 →
      ∃ (vs : Nat → AV) (frs : Nat → List AV) (hs : Nat → AHeap), frs k = fr ∧ hs k = h ∧ K (frs (k + (o :: os).length)) (hs (k + (o :: os).length)) ∧
        ∀ i o',k≤i→i<k+(o::os).length→ops[i]? = some o'→TS P ops ex i o' (frs i) (hs i) (vs i) (frs (i+1)) (hs (i+1)):=by
    intro v h1 hts hrest;obtain⟨vs,frs,hs,e1,e2,hK,hall⟩:=ih (k+1) _ h1 hl' hrest;refine⟨fun i=>if i=k then v else vs i,fun i=>if i=k then fr else frs i,fun i=>if i=k then h else hs i,by simp,by simp,?_,?_⟩
    · have e:k+(o::os).length=k+1+os.length:=by simp; omega
      rw[e];simp only[if_neg (show¬ k+1+os.length=k by omega)];exact hK
    · intro i o' h1' h2' ho';by_cases hik:i=k
      · subst hik;rw[ho] at ho'; cases ho';simp only[if_true,if_neg (show¬ i+1=i by omega),e1,e2];exact hts
      · simp only[if_neg hik,if_neg (show¬ i+1=k by omega)];exact hall i o' aA (by simp at h2'; omega) ho'
  unfold AOps at hA
  cases hgd:o.guard with
  | none=>
   simp only[hgd] at hA;obtain⟨v,h1,hs,hex,hrest⟩:=hA;have hs:=hs.elim id fun q=>absurd q.1 hntx
   exact hglue v h1 ⟨rfl,.inr ⟨.inl hgd,hs,hex⟩⟩ hrest
  | some jw=>
   obtain⟨j,want⟩:=jw;simp only[hgd] at hA;obtain⟨b,hb,hyes,hno⟩:=hA;by_cases hbw:b=some want;obtain⟨v,h1,hs,hex,hrest⟩:=hyes hbw;have hs:=hs.elim id fun q=>absurd q.1 hntx
   exact hglue v h1 ⟨rfl,.inr ⟨.inr ⟨j,want,hgd,by rw[←hbw]; exact hb⟩,hs,hex⟩⟩ hrest;exact hglue (.tup []) h ⟨rfl,.inl ⟨j,want,b,hgd,hb,hbw,rfl,rfl⟩⟩ (hno hbw)
theorem aops_textP {P : Program} {ops : Array Oper} {ex : List Nat} {K : List AV → AHeap → Prop} (hntx : ex ≠ TXT) : ∀ (l : List Oper) (k : Nat) (fr : List AV) (h : AHeap), (∀ i, i < l.length → l[i]? = ops[k + i]?) → AOps P ops ex K k l fr h →
    ∃ (vs : Nat → AV) (frs : Nat → List AV) (hs : Nat → AHeap), frs k = fr ∧ hs k = h ∧ K (frs (k + l.length)) (hs (k + l.length)) ∧
      ∀ i o,k≤i→i<k+l.length→ops[i]? = some o→TS P ops ex i o (frs i) (hs i) (vs i) (frs (i+1)) (hs (i+1)):=by
 intro l
 induction l with
 | nil=>intro k fr h _ hk; exact⟨fun _=>.bot,fun _=>fr,fun _=>h,rfl,rfl,hk,fun i o h1 h2=>by simp at h2; omega⟩
 | cons o os ih=>
  intro k fr h hl hA;have ho:ops[k]? = some o:=by have:=hl 0 aK; simpa using this.symm
  have hl':∀ i,i<os.length→os[i]? = ops[k+1+i]?:=by
   intro i hi;have:=hl (i+1) ab;simp only[fE] at this;rw[this]; congr 1; omega
  have hglue : ∀ v h1, TS P ops ex k o fr h v (setF fr o.dst v) h1 → AOps P ops ex K (k + 1) os (setF fr o.dst v) h1 →
      ∃ (vs : Nat → AV) (frs : Nat → List AV) (hs : Nat → AHeap), frs k = fr ∧ hs k = h ∧ K (frs (k + (o :: os).length)) (hs (k + (o :: os).length)) ∧
        ∀ i o',k≤i→i<k+(o::os).length→ops[i]? = some o'→TS P ops ex i o' (frs i) (hs i) (vs i) (frs (i+1)) (hs (i+1)):=by
    intro v h1 hts hrest;obtain⟨vs,frs,hs,e1,e2,hK,hall⟩:=ih (k+1) _ h1 hl' hrest;refine⟨fun i=>if i=k then v else vs i,fun i=>if i=k then fr else frs i,fun i=>if i=k then h else hs i,by simp,by simp,?_,?_⟩
    · have e:k+(o::os).length=k+1+os.length:=by simp; omega
      rw[e];simp only[if_neg (show¬ k+1+os.length=k by omega)];exact hK
    · intro i o' h1' h2' ho';by_cases hik:i=k
      · subst hik;rw[ho] at ho'; cases ho';simp only[if_true,if_neg (show¬ i+1=i by omega),e1,e2];exact hts
      · simp only[if_neg hik,if_neg (show¬ i+1=k by omega)];exact hall i o' aA (by simp at h2'; omega) ho'
  unfold AOps at hA
  cases hgd:o.guard with
  | none=>
   simp only[hgd] at hA;obtain⟨v,h1,hs,hex,hrest⟩:=hA;have hs:=hs.elim id fun q=>absurd q.1 hntx
   exact hglue v h1 ⟨rfl,.inr ⟨.inl hgd,hs,hex⟩⟩ hrest
  | some jw=>
   obtain⟨j,want⟩:=jw;simp only[hgd] at hA;obtain⟨b,hb,hyes,hno⟩:=hA;by_cases hbw:b=some want;obtain⟨v,h1,hs,hex,hrest⟩:=hyes hbw;have hs:=hs.elim id fun q=>absurd q.1 hntx
   exact hglue v h1 ⟨rfl,.inr ⟨.inr ⟨j,want,hgd,by rw[←hbw]; exact hb⟩,hs,hex⟩⟩ hrest;exact hglue (.tup []) h ⟨rfl,.inl ⟨j,want,b,hgd,hb,hbw,rfl,rfl⟩⟩ (hno hbw)
section drawn
variable {D:List Deferred} {P:Program} {ops:Array Oper} {ex:List Nat} {st:List (Nat × Nat)} {sz:Nat} {vs:Nat→AV} {frs:Nat→List AV} {hs:Nat→AHeap}
theorem TS.grow {i:Nat} {o:Oper} {fr fr':List AV} {h h':AHeap} {v:AV} (t:TS P ops ex i o fr h v fr' h'):HGrow h h':=by
 rcases t.2 with ⟨_,_,_,_,_,_,_,rfl⟩|⟨_,hs,_⟩
 exact HGrow.refl _;exact hs.stepS.1
theorem text_states (hts : ∀ i o, i < ops.size → ops[i]? = some o → TS P ops ex i o (frs i) (hs i) (vs i) (frs (i + 1)) (hs (i + 1)))
    {φ0:Emb} {a0:Act} {w0:World} (hfr:Fresh φ0 (hs 0) (hs ops.size)) (s0:Sim D φ0 (frs 0) (hs 0) a0 w0) :
    (∀ i,i≤ops.size→HGrow (hs 0) (hs i))∧(∀ i,i≤ops.size→HGrow (hs i) (hs ops.size))∧∀ i,i≤ops.size→∃ φ a w,Sim D φ (frs i) (hs i) a w∧Fresh φ (hs i) (hs ops.size):=by
 have hg:∀ i,i<ops.size→HGrow (hs i) (hs (i+1)):=fun i hi=>(hts i _ hi (dO hi)).grow
 have g0:∀ i,i≤ops.size→HGrow (hs 0) (hs i):=by
  intro i
  induction i with
  | zero=>intro _; exact HGrow.refl _
  | succ i ih=>intro hi; exact(ih aA).trans (hg i aA)
 have gn:∀ d i,i+d=ops.size→HGrow (hs i) (hs ops.size):=by
  intro d
  induction d with
  | zero=>intro i hi; simp at hi; subst hi; exact HGrow.refl _
  | succ d ih=>intro i hi; exact(hg i aA).trans (ih (i+1) aA)
 have gn':∀ i,i≤ops.size→HGrow (hs i) (hs ops.size):=fun i hi=>gn (ops.size - i) i aA
 refine⟨g0,gn',?_⟩;intro i
 induction i with
 | zero=>intro _; exact⟨φ0,a0,w0,s0,hfr⟩
 | succ i ih=>
  intro hi;obtain⟨φ,a,w,s,hf⟩:=ih aA;have ho:=dO (xs:=ops) (i:=i) aA;have t:=hts i _ aA ho;obtain⟨hfr',t2⟩:=t;rcases t2 with ⟨j,want,b,_,_,_,hv,hh⟩|⟨_,hst,_⟩
  rw[hfr',hh,hv];exact⟨φ,a.put ops[i].dst undef,w,⟨s.heap,s.fr.put _ (VRel.undef φ)⟩,hf⟩;obtain⟨g,hrun⟩:=hst.stepS;have:=hrun φ a w (fun a' w'=>∃ φ',Trans φ (hs i) w φ' (hs (i+1)) w'∧Sim D φ' (frs (i+1)) (hs (i+1)) a' w') (fun _ _ _=>False) (hf.left (gn' (i+1) aA)) s.heap (fun x _=>evalA_rel s.heap s.fr x) (by
   intro φ' c w' t' r' hv';rw[hfr'];exact⟨φ',t',r',(s.fr.mono t'.le).put _ hv'⟩)
  obtain⟨a',w',φ',t',s'⟩:=wp_some this;exact⟨φ',a',w',s',hf.right g t'⟩
structure Inv (D:List Deferred) (P:Program) (ops:Array Oper) (ex:List Nat) (sz:Nat) (vs:Nat→AV) (frs:Nat→List AV) (hs:Nat→AHeap) (φ0:Emb) (w0:World) (L:Nat→Bool) (φ:Emb) (a:Act) (w:World):Prop where
  closed:∀ i (o:Oper) e,ops[i]? = some o→L i=true→e∈o.after→dR .any e=true→L e.on=true
  lt:∀ i,L i=true→i<ops.size
  defers:a.defers=D
  size:a.tmps.size=sz
  new:∀ i (o:Oper) d v,ops[i]? = some o→L i=true→o.dst=some d→a.tmps[d]? = some v→VRel φ (vs i) v
  old:∀ (t:Nat) (x:AV) (v:Value),(∀ i (o:Oper),ops[i]? = some o→L i=true→o.dst≠some t)→(frs 0)[t]? = some x→a.tmps[t]? = some v→VRel φ x v
  free:∀ i,i<ops.size→L i=false→∀ b,(hs i).next≤b→b<(hs (i+1)).next→φ b=none
  defd:∀ i,L i=true→∀ b,(hs i).next≤b→b<(hs (i+1)).next→∃ p,φ b=some p
  glob:∀ g∈(hs 0).globs,∃ z,φ g=some (g,0,z)
  lies:∀ b k i z,φ b=some (k,i,z)→k<w.heap.size
  heap:∀ i,i≤ops.size→(∀ c (o:Oper),ops[c]? = some o→clsOf o.op = .chain→hs (c+1)≠hs c→((c<i∧L c=false)∨(i≤c∧L c=true))→ex.contains c=true)→HRel φ (hs i) w
  own:∀ j (o:Oper) cs,ops[j]? = some o→L j=true→clsOf o.op = .allo→hs (j+1)=(hs j).alloc cs→(∀ c (o:Oper),ops[c]? = some o→clsOf o.op = .chain→L c=true→c<j)→Own φ w (hs j).next cs
  le : φ0.le φ
  fresh:∀ b p,φ0 b=none→φ b=some p→(hs 0).next≤b∧b<(hs ops.size).next
  img:∀ b k i z,φ0 b=none→φ b=some (k,i,z)→w0.heap.size≤k∨∃ b0 i0 z0 F p cs,φ0 b0=some (k,i0,z0)∧(hs 0).get b0=some (.cells (some F) p cs)
  frame:∀ k,k<w0.heap.size→¬ (hs 0).mut φ0 k→w.heap[k]? = w0.heap[k]?
  os:w.os=w0.os
  tape:w.tape=w0.tape
  output:w.output=w0.output
  wsize:w0.heap.size≤w.heap.size
theorem Dep.lt (hok:RgOk sz ops ex st) {i j:Nat} (h:Dep ops i j):j<i:=by
 induction h with
 | edge i o e ho he hb=>exact hok.back i o e ho he hb
 | trans i j k _ _ h1 h2=>omega
theorem Dep.closed {L:Nat→Bool} (hcl:∀ i (o:Oper) e,ops[i]? = some o→L i=true→e∈o.after→dR .any e=true→L e.on=true) {i j:Nat} (h:Dep ops i j):L i=true→L j=true:=by
 induction h with
 | edge i o e ho he hb=>intro hL; exact hcl i o e ho hL he hb
 | trans i j k _ _ h1 h2=>intro hL; exact h2 (h1 hL)
theorem Dep.ready {L : Nat → Bool} (hcl : ∀ i (o : Oper) e, ops[i]? = some o → L i = true → e ∈ o.after → dR .any e = true → L e.on = true) {i j : Nat} {o : Oper} (ho : ops[i]? = some o)
    (hr:∀ e∈o.after,dR .any e=true→L e.on=true) (h:Dep ops i j):L j=true:=by
 induction h with
 | edge i o' e ho' he hb=>rw[ho] at ho'; cases ho'; exact hr e he hb
 | trans i j k _ h2 h1 _=>exact h2.closed hcl (h1 ho)
structure Txt (P:Program) (ops:Array Oper) (ex:List Nat) (sz:Nat) (vs:Nat→AV) (frs:Nat→List AV) (hs:Nat→AHeap):Prop where
  ts:∀ i o,i<ops.size→ops[i]? = some o→TS P ops ex i o (frs i) (hs i) (vs i) (frs (i+1)) (hs (i+1))
  wf:∀ i,i≤ops.size→WFH (hs i)
  glob:∀ i,i≤ops.size→(hs i).globs=(hs 0).globs
  size:(frs 0).length=sz
theorem Txt.len (T:Txt P ops ex sz vs frs hs):∀ i,i≤ops.size→(frs i).length=sz:=by
 intro i
 induction i with
 | zero=>intro _; exact T.size
 | succ i ih=>
  intro hi;have t:=T.ts i _ aA (dO aA);rw[t.1];unfold setF;split;rw[gB]; exact ih aA;exact ih aA
theorem Txt.nextLe (T:Txt P ops ex sz vs frs hs):∀ i j,i≤j→j≤ops.size→HGrow (hs i) (hs j):=by
 intro i j hij hj;obtain⟨d,rfl⟩:∃ d,j=i+d:=⟨j - i,by omega⟩;clear hij
 induction d with
 | zero=>exact HGrow.refl _
 | succ d ih=>exact(ih aA).trans (T.ts (i+d) _ aA (dO aA)).grow
theorem Txt.slot (T : Txt P ops ex sz vs frs hs) (_hok : RgOk sz ops ex st) : ∀ i, i ≤ ops.size → ∀ t, t < sz →
    ((∃ j o,j<i∧ops[j]? = some o∧o.dst=some t∧(frs i)[t]? = some (vs j))∨((∀ j (o:Oper),j<i→ops[j]? = some o→o.dst≠some t)∧(frs i)[t]? = (frs 0)[t]?)):=by
 intro i
 induction i with
 | zero=>intro _ t _; exact .inr ⟨fun j o hj=>by omega,rfl⟩
 | succ i ih=>
  intro hi t ht;have ho:=dO (xs:=ops) (i:=i) aA;have hts:=T.ts i _ aA ho;by_cases hd:ops[i].dst=some t;refine .inl ⟨i,ops[i],by omega,ho,hd,?_⟩;rw[hts.1];simp only[setF,hd];rw[gE,if_pos rfl,if_pos (by rw[T.len i aA]; exact ht)];have hsame:(frs (i+1))[t]? = (frs i)[t]?:=by
   rw[hts.1];unfold setF;split;rename_i d hd';rw[fB];rintro rfl;exact hd hd';rfl
  rcases ih aA t ht with ⟨j,o,hj,hoj,hdj,hv⟩|⟨hno,hv⟩
  exact .inl ⟨j,o,by omega,hoj,hdj,hsame.trans hv⟩;refine .inr ⟨?_,hsame.trans hv⟩;intro j o hj hoj;by_cases hji:j=i;subst hji;rw[ho] at hoj; cases hoj; exact hd;exact hno j o aA hoj
theorem Inv.slot {φ0 φ : Emb} {w0 w : World} {a : Act} {L : Nat → Bool} (I : Inv D P ops ex sz vs frs hs φ0 w0 L φ a w) (T : Txt P ops ex sz vs frs hs) (hok : RgOk sz ops ex st) {i : Nat} {o : Oper} (hi : ops[i]? = some o) (hun : L i = false)
    (hr:∀ e∈o.after,dR .any e=true→L e.on=true) (t:Nat) (hdep:∀ j oj,ops[j]? = some oj→oj.dst=some t→(j<i∧Dep ops i j)∨(i<j∧Dep ops j i)) :
    VRel φ ((frs i).getD t .bot) (a.tmps.getD t undef):=by
 have hin:i<ops.size:=(dU.1 hi).1;by_cases ht:t<sz;have hta:t<a.tmps.size:=by rw[I.size]; exact ht
 rw[dY,dT,dO hta];simp only[Option.getD_some];rcases T.slot hok i aA t ht with ⟨j,oj,hj,hoj,hdj,hv⟩|⟨hno,hv⟩
 rw[hv];rcases hdep j oj hoj hdj with ⟨_,hd⟩|⟨hlt,_⟩
 exact I.new j oj t _ hoj (hd.ready I.closed hi hr) hdj (dO hta);omega;rw[hv];have h0:t<(frs 0).length:=by rw[T.size]; exact ht
 rw[fP h0];refine I.old t _ _ ?_ (fP h0) (dO hta);intro j oj hoj hL hd;rcases hdep j oj hoj hd with ⟨hlt,_⟩|⟨_,hdp⟩
 exact hno j oj hlt hoj hd;have:=hdp.closed I.closed hL;rw[hun] at this; cases this;rw[dY,fV (by rw[T.len i aA]; omega)];exact .bot _
theorem Inv.opnd {φ0 φ : Emb} {w0 w : World} {a : Act} {L : Nat → Bool} (I : Inv D P ops ex sz vs frs hs φ0 w0 L φ a w) (T : Txt P ops ex sz vs frs hs) (hok : RgOk sz ops ex st) {i : Nat} {o : Oper} (hi : ops[i]? = some o) (hun : L i = false)
    (hr:∀ e∈o.after,dR .any e=true→L e.on=true):∀ x∈o.op.operands,VRel φ (evalA (hs i).globs (frs i) x) (a.eval x):=by
 intro x hx
 cases x with
 | tmp t=>exact I.slot T hok hi hun hr t fun j oj hj hd=>hok.opnd i j o oj t hi hj hx hd
 | const v=>exact AV.of_rel φ 4 v
 | global g=>
  simp only[evalA,Act.eval];split;rename_i hg;rw[T.glob i (by have:=(dU.1 hi).1; omega)] at hg;obtain⟨z,hz⟩:=I.glob g (by simpa using hg);exact .ptr g 0 g 0 z hz;exact .bot _
 | func f=>exact .fn f [] [] rfl aK
theorem Inv.wanted {φ0 φ : Emb} {w0 w : World} {a : Act} {L : Nat → Bool} (I : Inv D P ops ex sz vs frs hs φ0 w0 L φ a w) (T : Txt P ops ex sz vs frs hs) (hok : RgOk sz ops ex st) {i : Nat} {o : Oper} (hi : ops[i]? = some o) (hun : L i = false)
    (hr:∀ e∈o.after,dR .any e=true→L e.on=true) {j:Nat} {want:Bool} {b:Option Bool} (hg:o.guard=some (j,want)) (hb:guardA ops (frs i) j=some b):yielded ops a.tmps j=b:=by
 have hin:i<ops.size:=(dU.1 hi).1;have hdep:=hok.guard i o j want hi hg;unfold guardA at hb;split at hb
 ·rename_i d hd;obtain⟨oj,hoj,hdj⟩:∃ oj,ops[j]? = some oj∧oj.dst=some d:=by
   cases hoj:ops[j]? with
   | none=>rw[hoj] at hd; cases hd
   | some oj=>rw[hoj] at hd; exact⟨oj,rfl,hd⟩
  have:=I.slot T hok hi hun hr d fun j' oj' hj' hd'=>by
   have:=hok.inj j' j oj' oj d hj' hoj hd' hdj;subst this;exact .inl ⟨hdep.lt hok,hdep⟩
  have hlt:d<a.tmps.size:=by
   rw[I.size];exact hok.dst j oj d hoj hdj
  split at hb;rename_i b' hb';cases hb;exact(yielded_of hd this).1 _ hb' hlt;rename_i l hb';cases hb;exact(yielded_of hd this).2 _ hb';cases hb
 cases hb
end drawn
end Go.Am
namespace Go.Am
section drawn
variable {D:List Deferred} {P:Program} {ops:Array Oper} {ex:List Nat} {st:List (Nat × Nat)} {sz:Nat} {vs:Nat→AV} {frs:Nat→List AV} {hs:Nat→AHeap}
def Quiet (ops:Array Oper) (ex:List Nat) (hs:Nat→AHeap) (k:Nat):Prop:=∀ (o:Oper),ops[k]? = some o→clsOf o.op = .chain→hs (k+1)≠hs k→ex.contains k=true
theorem Txt.ext (T:Txt P ops ex sz vs frs hs) {k:Nat} (hk:k<ops.size) (q:Quiet ops ex hs k):HExt (hs k) (hs (k+1)):=by
 have ho:=dO (xs:=ops) (i:=k) hk;by_cases hsame:hs (k+1)=hs k;rw[hsame]; exact HExt.refl _
 ·rcases(T.ts k _ hk ho).2 with ⟨_,_,_,_,_,_,_,h⟩|⟨_,hst,hex⟩
  exact absurd h hsame
  ·cases hc:clsOf ops[k].op with
   | pure=>unfold SemStep at hst; rw[hc] at hst; exact absurd hst.2 hsame
   | read=>unfold SemStep at hst; rw[hc] at hst; exact absurd hst.2 hsame
   | allo=>
    unfold SemStep at hst; rw[hc] at hst;obtain⟨mk,cs,_,_,h⟩:=hst;rw[h];exact HExt.alloc' (T.wf k aA) cs
   | chain=>exact hex (q _ ho hc hsame) (T.wf k aA)
theorem Txt.extRange (T:Txt P ops ex sz vs frs hs) {i j:Nat} (hij:i≤j) (hj:j≤ops.size) (q:∀ k,i≤k→k<j→Quiet ops ex hs k):HExt (hs i) (hs j):=by
 obtain⟨d,rfl⟩:∃ d,j=i+d:=⟨j - i,by omega⟩;clear hij
 induction d with
 | zero=>exact HExt.refl _
 | succ d ih=>exact(ih aA (fun k h1 h2=>q k h1 aA)).trans (T.ext (k:=i+d) aA (q (i+d) aA aA))
theorem Txt.down (T:Txt P ops ex sz vs frs hs) {φ:Emb} {w:World} {i j:Nat} (hij:i≤j) (hj:j≤ops.size) (q:∀ k,i≤k→k<j→Quiet ops ex hs k) (r:HRel φ (hs j) w):HRel φ (hs i) w:=
  r.down (T.extRange hij hj q) (T.nextLe i j hij hj) (T.wf i aA)
theorem Txt.up (T : Txt P ops ex sz vs frs hs) {φ : Emb} {w : World} {i j : Nat} (hij : i ≤ j) (hj : j ≤ ops.size) (q : ∀ k, i ≤ k → k < j → Quiet ops ex hs k)
    (hnew:∀ k (o:Oper),i≤k→k<j→ops[k]? = some o→(∀ b,(hs k).next≤b→b<(hs (k+1)).next→φ b=none)∨hs (k+1)=hs k∨∃ cs,hs (k+1)=(hs k).alloc cs∧Own φ w (hs k).next cs) (r:HRel φ (hs i) w):HRel φ (hs j) w:=by
 obtain⟨d,rfl⟩:∃ d,j=i+d:=⟨j - i,by omega⟩;clear hij
 induction d with
 | zero=>exact r
 | succ d ih=>
  have r':=ih aA (fun k h1 h2=>q k h1 aA) (fun k o h1 h2 ho=>hnew k o h1 aA ho);have ho:=dO (xs:=ops) (i:=i+d) aA;rcases hnew (i+d) _ aA aA ho with h|h|⟨cs,h,own⟩
  exact r'.up (T.ext (k:=i+d) aA (q (i+d) aA aA)) (T.nextLe (i+d) (i+d+1) aA aA) (T.wf (i+d+1) aA) h;show HRel φ (hs (i+d+1)) w;rw[h]; exact r';show HRel φ (hs (i+d+1)) w;rw[h]; exact r'.add own
theorem Own.step {φ φ':Emb} {h h':AHeap} {w w':World} {b:Nat} {cs:List AV} (o:Own φ w b cs) (hb:h.next≤b) (t:Trans φ h w φ' h' w'):Own φ' w' b cs:=by
 obtain⟨k,z,c,e,h1,h2,h3,h4,h5,h6⟩:=o.lies;have hk:k<w.heap.size:=(dU.1 h2).1;have hnot:∀ b0 i0 z0 B,φ b0=some (k,i0,z0)→h.get b0=some B→False:=by
  intro b0 i0 z0 B hb0 hB;have:=h6 b0 i0 z0 hb0;subst this;have:=AHeap.get_lt hB;omega
 refine⟨k,z,c,e,t.le _ _ h1,?_,h3,h4,?_,?_⟩;rw[t.frame k hk];exact h2;rintro⟨b0,i0,z0,hb0,hm⟩;rcases hm with ⟨F,p,cs',hB⟩|⟨_,_,hB⟩
 exact hnot b0 i0 z0 _ hb0 hB;exact hnot b0 i0 z0 _ hb0 hB;intro j x hx;obtain⟨v,hv,hr⟩:=h5 j x hx;exact⟨v,hv,hr.mono t.le⟩
 ·intro b' i' z' hb'
  cases hφ : φ b' with
  | some q=>
   have:=t.le b' q hφ;rw[hb'] at this;cases this;exact h6 b' i' z' hφ
  | none=>
   rcases t.img b' k i' z' hφ hb' with h7|⟨b0,i0,z0,F,p,cs',h7,h8⟩
   omega;exact(hnot b0 i0 z0 _ h7 h8).elim
theorem Inv.frameStep {φ0 φ φ' : Emb} {w0 w : World} {a : Act} {L : Nat → Bool} (I : Inv D P ops ex sz vs frs hs φ0 w0 L φ a w) (hok : RgOk sz ops ex st) {i : Nat} {o : Oper} (hi : ops[i]? = some o)
    (hr:∀ e∈o.after,dR .any e=true→L e.on=true) (hle : φ.le φ') {c:Value} (hc:VRel φ' (vs i) c) {L':Nat→Bool} (hL:∀ k,L' k=(decide (k=i) || L k)) :
    (∀ k (o:Oper) e,ops[k]? = some o→L' k=true→e∈o.after→dR .any e=true→L' e.on=true)∧(∀ k,L' k=true→k<ops.size)∧(a.put o.dst c).defers=D∧(a.put o.dst c).tmps.size=sz∧
    (∀ k (o':Oper) d v,ops[k]? = some o'→L' k=true→o'.dst=some d→(a.put o.dst c).tmps[d]? = some v→VRel φ' (vs k) v)∧
    (∀ (t:Nat) (x:AV) (v:Value),(∀ k (o':Oper),ops[k]? = some o'→L' k=true→o'.dst≠some t)→(frs 0)[t]? = some x→(a.put o.dst c).tmps[t]? = some v→VRel φ' x v):=by
 have hput:∀ t v,(a.put o.dst c).tmps[t]? = some v→(o.dst=some t∧v=c)∨(o.dst≠some t∧a.tmps[t]? = some v):=by
  intro t v hv;unfold Act.put at hv;split at hv;rename_i d hd;simp only[Array.getElem?_setIfInBounds] at hv;by_cases hdt:d=t;subst hdt;simp only[if_true] at hv;split at hv
  cases hv; exact .inl ⟨hd,rfl⟩
  cases hv;rw[if_neg hdt] at hv;exact .inr ⟨by rw[hd]; exact fun h=>hdt (by cases h; rfl),hv⟩;rename_i hd;exact .inr ⟨by rw[hd]; exact fun h=>(by cases h),hv⟩
 refine⟨?_,?_,?_,?_,?_,?_⟩;intro k o' e ho' hk he hb;rw[hL] at hk⊢;simp only[dQ,decide_eq_true_eq] at hk⊢;rcases hk with rfl|hk
 rw[hi] at ho'; cases ho'; exact .inr (hr e he hb);exact .inr (I.closed k o' e ho' hk he hb);intro k hk;rw[hL] at hk;simp only[dQ,decide_eq_true_eq] at hk;rcases hk with rfl|hk
 exact(dU.1 hi).1;exact I.lt k hk;unfold Act.put; split <;> exact I.defers;unfold Act.put; split;simpa using I.size;exact I.size;intro k o' d v ho' hk hd hv;rw[hL] at hk;simp only[dQ,decide_eq_true_eq] at hk;rcases hput d v hv with ⟨hdi,rfl⟩|⟨hdi,hv'⟩
 have:=hok.inj k i o' o d ho' hi hd hdi;subst this;exact hc;rcases hk with rfl|hk
 rw[hi] at ho'; cases ho'; exact absurd hd hdi;exact(I.new k o' d v ho' hk hd hv').mono hle;intro t x v hno hx hv;rcases hput t v hv with ⟨hdi,rfl⟩|⟨hdi,hv'⟩
 exact absurd hdi (hno i o hi (by rw[hL]; simp));exact(I.old t x v (fun k o' ho' hk=>hno k o' ho' (by rw[hL]; simp[hk])) hx hv').mono hle
theorem ranges_apart (T:Txt P ops ex sz vs frs hs) {i j b:Nat} (hi:i<ops.size) (hj:j<ops.size) (h1:(hs i).next≤b) (h2:b<(hs (i+1)).next) (h3:(hs j).next≤b) (h4:b<(hs (j+1)).next):i=j:=by
 rcases gI i j with h|h|h
 have:=(T.nextLe (i+1) j aA aA).next; omega;exact h;have:=(T.nextLe (j+1) i aA aA).next; omega
theorem Inv.still {φ0 φ : Emb} {w0 w : World} {a : Act} {L : Nat → Bool} (I : Inv D P ops ex sz vs frs hs φ0 w0 L φ a w) (_T : Txt P ops ex sz vs frs hs) (hok : RgOk sz ops ex st) {i : Nat} {o : Oper} (hi : ops[i]? = some o)
    (hr:∀ e∈o.after,dR .any e=true→L e.on=true) (hsame:hs (i+1)=hs i) {c:Value} (hc:VRel φ (vs i) c) {L':Nat→Bool} (hL:∀ k,L' k=(decide (k=i) || L k)) :
    Inv D P ops ex sz vs frs hs φ0 w0 L' φ (a.put o.dst c) w:=by
 obtain⟨f1,f2,f3,f4,f5,f6⟩:=I.frameStep hok hi hr (Emb.le_refl φ) hc hL;have hmono:∀ k,L k=true→L' k=true:=fun k hk=>by rw[hL]; simp[hk]
 refine⟨f1,f2,f3,f4,f5,f6,?_,?_,I.glob,I.lies,?_,?_,I.le,I.fresh,I.img,I.frame,I.os,I.tape,I.output,I.wsize⟩;intro k hk hLk b h1 h2;rw[hL] at hLk;simp only[fC] at hLk;exact I.free k hk hLk.2 b h1 h2;intro k hLk b h1 h2;rw[hL] at hLk;simp only[dQ,decide_eq_true_eq] at hLk;rcases hLk with rfl|hLk
 rw[hsame] at h2; omega;exact I.defd k hLk b h1 h2;intro k hk hcomp;refine I.heap k hk ?_;intro c' oc hoc hcl hne hside;refine hcomp c' oc hoc hcl hne ?_;have hci:c'≠i:=fun h=>hne (by rw[h]; exact hsame)
 rcases hside with ⟨h1,h2⟩|⟨h1,h2⟩
 exact .inl ⟨h1,by rw[hL]; simp[hci,h2]⟩;exact .inr ⟨h1,hmono c' h2⟩;intro j oj cs hoj hLj hcl hal hall;rw[hL] at hLj;simp only[dQ,decide_eq_true_eq] at hLj;rcases hLj with rfl|hLj
 have:=congrArg AHeap.next hal;rw[hsame,AHeap.next_alloc] at this;omega;exact I.own j oj cs hoj hLj hcl hal (fun c' oc hoc hcc hLc=>hall c' oc hoc hcc (hmono c' hLc))
theorem Inv.allo {φ0 φ : Emb} {w0 w : World} {a : Act} {L : Nat → Bool} (I : Inv D P ops ex sz vs frs hs φ0 w0 L φ a w) (T : Txt P ops ex sz vs frs hs) (hok : RgOk sz ops ex st) (hstA : ∀ c j (o : Oper), (c, j) ∈ st → c < ops.size → ops[j]? = some o → clsOf o.op = .allo → (hs (c + 1)).get (hs j).next = (hs c).get (hs j).next) {i : Nat} {o : Oper} (hi : ops[i]? = some o) (hun : L i = false)
    (hcls:clsOf o.op = .allo) (hr:∀ e∈o.after,dR .any e=true→L e.on=true) {cs:List AV} (hal:hs (i+1)=(hs i).alloc cs) {c:Array Value} {e:TypeId} (hlen:cs.length≤c.size) (hcells:CellsAt φ cs c 0)
    {v:Value} (hv:VRel (φ.upd (hs i).next (w.heap.size,0,c.size)) (vs i) v) {L':Nat→Bool} (hL:∀ k,L' k=(decide (k=i) || L k)) :
    Inv D P ops ex sz vs frs hs φ0 w0 L' (φ.upd (hs i).next (w.heap.size,0,c.size)) (a.put o.dst v) (w.alloc (.cells c e)):=by
 have hin:i<ops.size:=(dU.1 hi).1;have hnx:(hs (i+1)).next=(hs i).next+1:=by rw[hal,AHeap.next_alloc]
 have hφ : φ (hs i).next=none:=I.free i hin hun _ (dS _) aA;have hle:=Emb.le_upd (φ:=φ) (w.heap.size,0,c.size) hφ;obtain⟨f1,f2,f3,f4,f5,f6⟩:=I.frameStep hok hi hr hle hv hL;have hmono:∀ k,L k=true→L' k=true:=fun k hk=>by rw[hL]; simp[hk]
 have hold:∀ k,k<w.heap.size→(w.alloc (.cells c e)).heap[k]? = w.heap[k]?:=fun k hk=>heap_alloc_old w _ hk
 have hcase:∀ b' p,φ.upd (hs i).next (w.heap.size,0,c.size) b'=some p→(b'=(hs i).next∧p=(w.heap.size,0,c.size))∨(b'≠(hs i).next∧φ b'=some p):=by
  intro b' p hb;by_cases hbn:b'=(hs i).next;subst hbn; rw[Emb.upd_same] at hb; cases hb; exact .inl ⟨rfl,rfl⟩;rw[Emb.upd_other φ _ hbn] at hb; exact .inr ⟨hbn,hb⟩
 have hnchain:∀ c' (oc:Oper),ops[c']? = some oc→clsOf oc.op = .chain→c'≠i:=by
  rintro c' oc hoc hcc rfl;rw[hi] at hoc; cases hoc; rw[hcls] at hcc; cases hcc
 refine⟨f1,f2,f3,f4,f5,f6,?_,?_,?_,?_,?_,?_,Emb.le_trans I.le hle,?_,?_,?_,I.os,I.tape,I.output,by simp; have:=I.wsize; omega⟩;intro k hk hLk b h1 h2;rw[hL] at hLk;simp only[fC,decide_eq_false_iff_not] at hLk;have hbn:b≠(hs i).next:=by
  rintro rfl;exact hLk.1 (ranges_apart T hk hin h1 h2 (dS _) aA)
 rw[Emb.upd_other φ _ hbn];exact I.free k hk hLk.2 b h1 h2;intro k hLk b h1 h2;rw[hL] at hLk;simp only[dQ,decide_eq_true_eq] at hLk;rcases hLk with rfl|hLk
 have:b=(hs k).next:=by omega
 subst this;exact⟨_,Emb.upd_same _ _ _⟩;obtain⟨p,hp⟩:=I.defd k hLk b h1 h2;exact⟨p,hle _ _ hp⟩;intro g hg;obtain⟨z,hz⟩:=I.glob g hg;exact⟨z,hle _ _ hz⟩;intro b k j z hb;simp only[World.size_alloc];rcases hcase b _ hb with ⟨_,h⟩|⟨_,h⟩
 cases h; omega
 have:=I.lies b k j z h; omega
 ·intro k hk hcomp;have hcompL:∀ c' (oc:Oper),ops[c']? = some oc→clsOf oc.op = .chain→hs (c'+1)≠hs c'→((c'<k∧L c'=false)∨(k≤c'∧L c'=true))→ex.contains c'=true:=by
   intro c' oc hoc hcl hne hside;refine hcomp c' oc hoc hcl hne ?_;have hci:=hnchain c' oc hoc hcl;rcases hside with ⟨h1,h2⟩|⟨h1,h2⟩
   exact .inl ⟨h1,by rw[hL]; simp[hci,h2]⟩;exact .inr ⟨h1,hmono c' h2⟩
  refine(I.heap k hk hcompL).define hφ ?_ hlen hcells;by_cases hki:k≤i;exact .inl (T.nextLe k i hki aA).next
  ·refine .inr ⟨(hs i).nfam,?_⟩;have hget:∀ d,i+1+d≤k→(hs (i+1+d)).get (hs i).next=(hs (i+1)).get (hs i).next:=by
    intro d
    induction d with
    | zero=>intro _; rfl
    | succ d ihd=>
     intro hd;rw[←ihd aA];by_cases hq:Quiet ops ex hs (i+1+d);have hnx2:=(T.nextLe (i+1) (i+1+d) aA aA).next;exact(T.ext aA hq).get _ aA;have hoq:=dO (xs:=ops) (i:=i+1+d) aA;have hq2:∃ oq,ops[i+1+d]? = some oq∧clsOf oq.op = .chain∧hs (i+1+d+1)≠hs (i+1+d)∧ex.contains (i+1+d)≠true:=
      dV fun hn=>hq fun oq h1 h2 h3=>dV fun h4=>hn ⟨oq,h1,h2,h3,h4⟩
     obtain⟨oq,h1,h2,h3,h4⟩:=hq2;by_cases hLq:L (i+1+d)=true;rcases hok.allo (i+1+d) i oq o h1 hi h2 hcls aA with h|h|h
     exact absurd h h4;have:=h.closed I.closed hLq;rw[hun] at this; cases this;exact hstA (i+1+d) i o h aA hi hcls;exact absurd (hcompL (i+1+d) oq h1 h2 h3 (.inl ⟨by omega,by simpa using hLq⟩)) h4
   have hgk:=hget (k - (i+1)) aA;rw[show i+1+(k - (i+1))=k by omega] at hgk;rw[hgk,hal,AHeap.get_alloc,if_pos rfl]
 intro j oj cs' hoj hLj hcl hal' hall;rw[hL] at hLj;simp only[dQ,decide_eq_true_eq] at hLj;rcases hLj with rfl|hLj
 have hcs:cs'=cs:=by
  have h1:=congrArg (fun h=>AHeap.get h (hs j).next) (hal.symm.trans hal');simp only[AHeap.get_alloc,if_pos] at h1
  cases h1; rfl
 subst hcs;refine⟨w.heap.size,c.size,c,e,Emb.upd_same _ _ _,heap_alloc_new w _,rfl,hlen,fun q x hx=>let⟨u,h1,h2⟩:=hcells q x hx; ⟨u,h1,h2.mono hle⟩,?_⟩;intro b' i' z' hb';rcases hcase b' _ hb' with ⟨h,_⟩|⟨_,h⟩
 exact h;have:=I.lies b' _ i' z' h; omega;obtain⟨k,z,c1,e1,h1,h2,h3,h4,h5,h6⟩:=(I.own j oj cs' hoj hLj hcl hal' (fun c' oc hoc hcc hLc=>hall c' oc hoc hcc (hmono c' hLc))).lies;have hk:k<w.heap.size:=(dU.1 h2).1;refine⟨k,z,c1,e1,hle _ _ h1,(hold k hk).trans h2,h3,h4,fun q x hx=>let⟨u,q1,q2⟩:=h5 q x hx; ⟨u,q1,q2.mono hle⟩,?_⟩;intro b' i' z' hb';rcases hcase b' _ hb' with ⟨_,h⟩|⟨_,h⟩
 cases h; omega
 exact h6 b' i' z' h;intro b p h1 h2;rcases hcase b p h2 with ⟨rfl,_⟩|⟨_,h⟩
 have e1:=(T.nextLe 0 i aA aA).next;have e2:=(T.nextLe (i+1) ops.size aA aA).next;omega;exact I.fresh b p h1 h;intro b k j z h1 h2;rcases hcase b _ h2 with ⟨_,h⟩|⟨_,h⟩
 cases h; exact .inl I.wsize
 exact I.img b k j z h1 h;intro k hk hm;rw[hold k (fA hk I.wsize)];exact I.frame k hk hm
theorem Inv.chain {φ0 φ φ' : Emb} {w0 w w' : World} {a : Act} {L : Nat → Bool} (I : Inv D P ops ex sz vs frs hs φ0 w0 L φ a w) (T : Txt P ops ex sz vs frs hs) (hok : RgOk sz ops ex st) (hf0 : Fresh φ0 (hs 0) (hs ops.size)) {i : Nat} {o : Oper}
    (hi:ops[i]? = some o) (hun:L i=false) (hcls:clsOf o.op = .chain) (hr:∀ e∈o.after,dR .any e=true→L e.on=true) (t:Trans φ (hs i) w φ' (hs (i+1)) w') (r':HRel φ' (hs (i+1)) w')
    {v:Value} (hv:VRel φ' (vs i) v) {L':Nat→Bool} (hL:∀ k,L' k=(decide (k=i) || L k)):Inv D P ops ex sz vs frs hs φ0 w0 L' φ' (a.put o.dst v) w':=by
 have hin:i<ops.size:=(dU.1 hi).1;obtain⟨f1,f2,f3,f4,f5,f6⟩:=I.frameStep hok hi hr t.le hv hL;have hmono:∀ k,L k=true→L' k=true:=fun k hk=>by rw[hL]; simp[hk]
 have hnx:=(T.nextLe i (i+1) aA aA).next;have hg0:=(T.nextLe 0 i aA aA);have hgn:=(T.nextLe (i+1) ops.size aA aA).next;have hbefore:∀ c' (oc:Oper),ops[c']? = some oc→clsOf oc.op = .chain→c'<i→L c'=true:=fun c' oc hoc hcc hlt=>(hok.chain i c' o oc hi hoc hcls hcc hlt).ready I.closed hi hr
 have hbehind:∀ c' (oc:Oper),ops[c']? = some oc→clsOf oc.op = .chain→i<c'→L c'=false:=by
  intro c' oc hoc hcc hlt
  cases hLc:L c' with
  | false=>rfl
  | true=>
   have:=(hok.chain c' i oc o hoc hi hcc hcls hlt).closed I.closed hLc;rw[hun] at this; cases this
 have hfree:∀ k,k<ops.size→L' k=false→∀ b,(hs k).next≤b→b<(hs (k+1)).next→φ' b=none:=by
  intro k hk hLk b h1 h2;rw[hL] at hLk;simp only[fC,decide_eq_false_iff_not] at hLk
  cases hb : φ' b with
  | none=>rfl
  | some p=>
   have:=t.new b p (I.free k hk hLk.2 b h1 h2) hb;exact absurd (ranges_apart T hk hin h1 h2 this.1 this.2) hLk.1
 have hownstep:∀ j (oj:Oper) cs,ops[j]? = some oj→L j=true→clsOf oj.op = .allo→hs (j+1)=(hs j).alloc cs→i<j→Own φ' w' (hs j).next cs:=by
  intro j oj cs hoj hLj hcl hal hij;have hjn:j<ops.size:=(dU.1 hoj).1;refine(I.own j oj cs hoj hLj hcl hal ?_).step (T.nextLe i j aA aA).next t;intro c' oc hoc hcc hLc;rcases gI c' i with h|h|h
  omega;subst h; rw[hun] at hLc; cases hLc;rw[hbehind c' oc hoc hcc h] at hLc; cases hLc
 have hback:∀ b,(∃ p,φ0 b=some p)→(∃ B,(hs i).get b=some B)→b<(hs 0).next:=by
  rintro b ⟨p,hp⟩ ⟨B,hB⟩;apply gU;intro hle;have:=hf0 b hle (by have:=AHeap.get_lt hB; omega);rw[hp] at this; cases this
 have hmut:∀ k,k<w0.heap.size→(hs i).mut φ k→(hs 0).mut φ0 k:=by
  rintro k hk ⟨b,j,z,hb,hm⟩
  cases hφ : φ0 b with
  | none=>
   rcases I.img b k j z hφ hb with h3|⟨b0,i0,z0,F,p,cs,h3,h4⟩
   omega;exact⟨b0,i0,z0,h3,.inl ⟨F,p,cs,h4⟩⟩
  | some q=>
   have:=I.le b q hφ;rw[hb] at this;cases this;rcases hm with ⟨F,p,cs,h4⟩|⟨_,_,h4⟩
   obtain⟨cs',h5,_⟩:=hg0.back (hback b ⟨_,hφ⟩ ⟨_,h4⟩) h4;exact⟨b,j,z,hφ,.inl ⟨F,p,cs',h5⟩⟩;obtain⟨F',x',h5⟩:=hg0.backMap (hback b ⟨_,hφ⟩ ⟨_,h4⟩) h4;exact⟨b,j,z,hφ,.inr ⟨F',x',h5⟩⟩
 refine⟨f1,f2,f3,f4,f5,f6,hfree,?_,?_,r'.lt,?_,?_,Emb.le_trans I.le t.le,?_,?_,?_,t.os.trans I.os,t.tape.trans I.tape,t.output.trans I.output,fD I.wsize t.size⟩;intro k hLk b h1 h2;rw[hL] at hLk;simp only[dQ,decide_eq_true_eq] at hLk;rcases hLk with rfl|hLk
 exact t.dom b h1 h2;obtain⟨p,hp⟩:=I.defd k hLk b h1 h2;exact⟨p,t.le _ _ hp⟩;intro g hg;obtain⟨z,hz⟩:=I.glob g hg;exact⟨z,t.le _ _ hz⟩
 ·intro k hk hcomp;by_cases hki:k≤i;refine T.down aA aA ?_ r';intro q h1 h2 oq hoq hcq hne;refine hcomp q oq hoq hcq hne (.inr ⟨h1,?_⟩);by_cases hqi:q=i;subst hqi; rw[hL]; simp;exact hmono q (hbefore q oq hoq hcq aA)
  ·refine T.up (show i+1≤k by omega) hk ?_ ?_ r';intro q h1 h2 oq hoq hcq hne;refine hcomp q oq hoq hcq hne (.inl ⟨h2,?_⟩);rw[hL,hbehind q oq hoq hcq aA];simp; omega
   ·intro q oq h1 h2 hoq;have hqn:q<ops.size:=by omega
    cases hLq:L q with
    | false=>
     refine .inl (hfree q hqn ?_);rw[hL,hLq]; simp; omega
    | true=>
     rcases(T.ts q oq hqn hoq).2 with ⟨_,_,_,_,_,_,_,h⟩|⟨_,hst,_⟩
     exact .inr (.inl h)
     ·cases hc:clsOf oq.op with
      | pure=>unfold SemStep at hst; rw[hc] at hst; exact .inr (.inl hst.2)
      | read=>unfold SemStep at hst; rw[hc] at hst; exact .inr (.inl hst.2)
      | allo=>
       unfold SemStep at hst; rw[hc] at hst;obtain⟨mk,cs,_,_,h⟩:=hst;exact .inr (.inr ⟨cs,h,hownstep q oq cs hoq hLq hc h aA⟩)
      | chain=>rw[hbehind q oq hoq hc aA] at hLq; cases hLq
 intro j oj cs hoj hLj hcl hal hall;have hij:i<j:=hall i o hi hcls (by rw[hL]; simp);rw[hL] at hLj;simp only[dQ,decide_eq_true_eq] at hLj;rcases hLj with rfl|hLj
 omega;exact hownstep j oj cs hoj hLj hcl hal hij
 ·intro b p h1 h2
  cases hφ : φ b with
  | some q=>exact I.fresh b q h1 hφ
  | none=>
   have:=t.new b p hφ h2;have:=hg0.next;omega
 ·intro b k j z h1 h2
  cases hφ : φ b with
  | some q=>
   have:=t.le b q hφ;rw[h2] at this;cases this;exact I.img b k j z h1 hφ
  | none=>
   rcases t.img b k j z hφ h2 with h3|⟨b0,i0,z0,F,p,cs,h3,h4⟩
   exact .inl (fD I.wsize h3)
   ·by_cases hk:w0.heap.size≤k;exact .inl hk
    ·refine .inr ?_
     cases hφ0 : φ0 b0 with
     | none=>
      rcases I.img b0 k i0 z0 hφ0 h3 with h5|h5
      omega;exact h5
     | some q=>
      have:=I.le b0 q hφ0;rw[h3] at this;cases this;obtain⟨cs',h5,_⟩:=hg0.back (hback b0 ⟨_,hφ0⟩ ⟨_,h4⟩) h4;exact⟨b0,i0,z0,F,p,cs',hφ0,h5⟩
 intro k hk hm;rw[t.frame k (fA hk I.wsize) (fun hm'=>hm (hmut k hk hm'))];exact I.frame k hk hm
theorem Inv.all {φ0 : Emb} {w0 : World} (T : Txt P ops ex sz vs frs hs) (hok : RgOk sz ops ex st) (hstab : ∀ c r (o : Oper), (c, r) ∈ st → c < ops.size → ops[r]? = some o → clsOf o.op = .read → areadR P (hs (if r < c then c + 1 else c)) (evalA (hs r).globs (frs r)) o.op = some (vs r)) (hstA : ∀ c j (o : Oper), (c, j) ∈ st → c < ops.size → ops[j]? = some o → clsOf o.op = .allo → (hs (c + 1)).get (hs j).next = (hs c).get (hs j).next) (hf0 : Fresh φ0 (hs 0) (hs ops.size)) {Q : Exit → Act → World → Prop}
    (hq:∀ φ a w,Trans φ0 (hs 0) w0 φ (hs ops.size) w→Sim D φ (frs ops.size) (hs ops.size) a w→Q .normal a w) :
    ∀ (fuel : Nat) (listed : Array Bool) (φ : Emb) (a : Act) (w : World), listed.size = ops.size → (dW ops.size).countP (fun k => !listed.getD k false) ≤ fuel →
      Inv D P ops ex sz vs frs hs φ0 w0 (fun k=>listed.getD k false) φ a w→wpAny P .any ops Q fuel listed a w:=by
 have hdone:∀ (listed:Array Bool) (φ:Emb) (a:Act) (w:World),listed.size=ops.size→Inv D P ops ex sz vs frs hs φ0 w0 (fun k=>listed.getD k false) φ a w→fF .any ops listed = []→Q .normal a w:=by
  intro listed φ a w hsz I hrd;have hall:∀ i,i<ops.size→listed.getD i false=true:=by
   intro i
   induction i using fS with
   | _ i ih=>
    intro hi;have ho:=dO (xs:=ops) (i:=i) hi
    cases hL:listed.getD i false with
    | true=>rfl
    | false=>
     have:i∈fF .any ops listed:=by
      rw[mem_ready];refine⟨?_,ops[i],ho,?_⟩;rw[dT,dO aA] at hL⊢;exact hL;intro e he hb;have hlt:=hok.back i _ e ho he hb;exact ih e.on hlt aA
     rw[hrd] at this;cases this
  have hrel:=I.heap ops.size (dS _) (by
   intro c oc hoc _ _ hside;have hc:=(dU.1 hoc).1;rcases hside with ⟨_,h⟩|⟨h,_⟩
   have:=hall c hc; rw[this] at h; cases h;omega)
  refine hq φ a w ⟨I.le,?_,I.fresh,I.img,I.frame,I.os,I.tape,I.output,I.wsize⟩ ⟨hrel,I.defers,?_,?_⟩
  ·intro b h1 h2;have:∀ d,d≤ops.size→b<(hs d).next→∃ i,i<d∧(hs i).next≤b∧b<(hs (i+1)).next:=by
    intro d
    induction d with
    | zero=>intro _ h; omega
    | succ d ih=>
     intro hd h;by_cases h':b<(hs d).next;obtain⟨i,hi,h3⟩:=ih aA h';exact⟨i,by omega,h3⟩;exact⟨d,by omega,by omega,h⟩
   obtain⟨i,hi,h3,h4⟩:=this ops.size (dS _) h2;exact I.defd i (hall i hi) b h3 h4
  rw[T.len _ (dS _),I.size];intro t x v hx hv;have ht:t<sz:=by rw[←T.len ops.size (dS _)]; exact(List.getElem?_eq_some_iff.1 hx).1
  rcases T.slot hok ops.size (dS _) t ht with ⟨j,oj,hj,hoj,hdj,hval⟩|⟨hno,hval⟩
  rw[hval] at hx; cases hx;exact I.new j oj t v hoj (hall j hj) hdj hv;rw[hval] at hx;exact I.old t x v (fun k o ho _=>hno k o (dU.1 ho).1 ho) hx hv
 have hnext:∀ (listed:Array Bool) (i:Nat),listed.size=ops.size→i<ops.size→∀ k,(listed.setIfInBounds i true).getD k false=(decide (k=i) || listed.getD k false):=by
  intro listed i hsz hi k;by_cases hki:k=i;subst hki;simp[show k<listed.size by omega];rw[getD_set_ne false (fun h=>hki h.symm)];simp[hki]
 intro fuel
 induction fuel with
 | zero=>
  intro listed φ a w hsz hcnt I;have hrd:fF .any ops listed = []:=by
   cases hr:fF .any ops listed with
   | nil=>rfl
   | cons i l=>
    have hm:i∈fF .any ops listed:=by rw[hr]; simp
    rw[mem_ready] at hm;obtain⟨h0,o,ho,_⟩:=hm;have hi:=(dU.1 ho).1;have : 0<(dW ops.size).countP (fun k=>!listed.getD k false):=by
     rw[List.countP_pos_iff];refine⟨i,List.mem_range.2 hi,?_⟩;rw[dT,dO aA] at h0⊢;simpa using h0
    omega
  exact⟨hrd,hdone listed φ a w hsz I hrd⟩
 | succ fuel ih=>
  intro listed φ a w hsz hcnt I;refine⟨fun h=>hdone listed φ a w hsz I h,?_⟩;intro i hi;rw[mem_ready] at hi;obtain⟨h0,o,ho,hedges⟩:=hi;have hin:=(dU.1 ho).1;have hun:listed.getD i false=false:=by
   rw[dT,dO aA] at h0⊢;exact h0
  have hL:=hnext listed i hsz hin;have hcnt':(dW ops.size).countP (fun k=>!(listed.setIfInBounds i true).getD k false)≤fuel:=by
   have hlt:(dW ops.size).countP (fun k=>!(listed.setIfInBounds i true).getD k false)<(dW ops.size).countP (fun k=>!listed.getD k false):=by
    have hgen:∀ n,i<n→(dW n).countP (fun k=>!(listed.setIfInBounds i true).getD k false)<(dW n).countP (fun k=>!listed.getD k false):=by
     have hle:∀ n,(dW n).countP (fun k=>!(listed.setIfInBounds i true).getD k false)≤(dW n).countP (fun k=>!listed.getD k false):=by
      intro n;refine List.countP_mono_left ?_;intro k _ hk;rw[hL] at hk;simp at hk⊢;exact hk.2
     intro n
     induction n with
     | zero=>intro h; omega
     | succ n ihn=>
      intro h;rw[List.range_succ,gA,gA,fW,fW];by_cases hni:i=n;subst hni;have e1:(!(listed.setIfInBounds i true).getD i false)=false:=by rw[hL]; simp
      have e2:(!listed.getD i false)=true:=by rw[hun]; rfl
      rw[e1,e2];have:=hle i;simp;simp at this;omega;have:=ihn aA;have e:(listed.setIfInBounds i true).getD n false=listed.getD n false:=by rw[hL]; simp; omega
      rw[e];omega
    exact hgen ops.size hin
   omega
  have hrest:∀ φ' a' w',Inv D P ops ex sz vs frs hs φ0 w0 (fun k=>(listed.setIfInBounds i true).getD k false) φ' a' w'→wpAny P .any ops Q fuel (listed.setIfInBounds i true) a' w':=
   fun φ' a' w' I'=>ih (listed.setIfInBounds i true) φ' a' w' (by simpa using hsz) hcnt' I'
  have hopnd:=I.opnd T hok ho hun hedges;unfold wpOp;simp only[ho];rcases(T.ts i o hin ho).2 with ⟨j,want,b,hg,hb,hbw,hvs,hsame⟩|⟨hguard,hst,_⟩
  have hw:fO o (yielded ops a.tmps)=false:=by
   simp[fO,hg,I.wanted T hok ho hun hedges hg hb];exact hbw
  simp only[hw,Bool.false_eq_true,if_false];exact hrest φ _ w (I.still T hok ho hedges hsame (by rw[hvs]; exact VRel.undef φ) hL)
  ·have hw:fO o (yielded ops a.tmps)=true:=by
    rcases hguard with hg|⟨j,want,hg,hb⟩
    simp[fO,hg];simp[fO,hg,I.wanted T hok ho hun hedges hg hb]
   simp only[hw,if_true];refine .inl ?_;have hcomp0:∀ i',(∀ c (oc:Oper),ops[c]? = some oc→clsOf oc.op = .chain→hs (c+1)≠hs c→((c<i'∧listed.getD c false=false)∨(i'≤c∧listed.getD c false=true))→ex.contains c=true)→i'≤ops.size→HRel φ (hs i') w:=fun i' h hi'=>I.heap i' hi' h
   cases hc:clsOf o.op with
   | pure=>
    unfold SemStep at hst; rw[hc] at hst;obtain⟨c,hrun,hv⟩:=apure_sound (ev:=a.eval) hopnd hst.1 w;exact wp_of_run hrun (hrest φ _ w (I.still T hok ho hedges hst.2 hv hL))
   | read=>
    unfold SemStep at hst; rw[hc] at hst;by_cases hstx:∃ (c:Nat) (oc:Oper),ops[c]? = some oc∧clsOf oc.op = .chain∧listed.getD c false=true∧(c,i)∈st∧i<c
    ·
      have hmax:∃ (c:Nat) (oc:Oper),(ops[c]? = some oc∧clsOf oc.op = .chain∧listed.getD c false=true∧(c,i)∈st∧i<c)∧∀ (c':Nat) (oc':Oper),(ops[c']? = some oc'∧clsOf oc'.op = .chain∧listed.getD c' false=true∧(c',i)∈st∧i<c')→c'≤c:=by
        have key:∀ (k c:Nat) (oc:Oper),ops.size - c=k→(ops[c]? = some oc∧clsOf oc.op = .chain∧listed.getD c false=true∧(c,i)∈st∧i<c)→∃ (c:Nat) (oc:Oper),(ops[c]? = some oc∧clsOf oc.op = .chain∧listed.getD c false=true∧(c,i)∈st∧i<c)∧∀ (c':Nat) (oc':Oper),(ops[c']? = some oc'∧clsOf oc'.op = .chain∧listed.getD c' false=true∧(c',i)∈st∧i<c')→c'≤c:=by
          intro k
          induction k using fS with
          | _ k ihk=>
            intro c oc hk hcc;by_cases hb:∃ (c':Nat) (oc':Oper),(ops[c']? = some oc'∧clsOf oc'.op = .chain∧listed.getD c' false=true∧(c',i)∈st∧i<c')∧c<c';obtain⟨c',oc',h1,h2⟩:=hb;have hlt:=(dU.1 h1.1).1;exact ihk (ops.size - c') aA c' oc' rfl h1;exact⟨c,oc,hcc,fun c' oc' h1=>dV fun h2=>hb ⟨c',oc',h1,by omega⟩⟩
        obtain⟨c,oc,h⟩:=hstx;exact key _ c oc rfl h
      obtain⟨c,oc,⟨hoc,hcc,hcl,hcs,hci⟩,hcm⟩:=hmax;have hclt:=(dU.1 hoc).1;have hrel:HRel φ (hs (c+1)) w:=by
        refine hcomp0 (c+1) ?_ aA;intro c' oc' hoc' hcc' _ hside;rcases hside with ⟨h1,h2⟩|⟨h1,h2⟩
        by_cases hce:c'=c;subst hce; rw[hcl] at h2; cases h2;have:=(hok.chain c c' oc oc' hoc hoc' hcc hcc' aA).closed I.closed hcl;rw[h2] at this; cases this;rcases hok.read c' i oc' o hoc' ho hcc' hc with h|h|h|h'
        exact h;have:=h.closed I.closed h2;rw[hun] at this; cases this;have:=h.lt hok; omega;have:=hcm c' oc' ⟨hoc',hcc',h2,h',by omega⟩; omega
      have hsb:=hstab c i o hcs hclt ho hc;rw[if_pos hci] at hsb;obtain⟨cv,hrun,hv⟩:=areadR_sound (ev:=a.eval) hrel hopnd hsb;exact wp_of_run hrun (hrest φ _ w (I.still T hok ho hedges hst.2 hv hL))
    have hci:∀ (c:Nat) (oc:Oper),ops[c]? = some oc→clsOf oc.op = .chain→c≠i:=by
     intro c oc hoc hcc e;subst e;rw[ho] at hoc;cases hoc;rw[hc] at hcc;cases hcc
    by_cases hsty:∃ (c:Nat) (oc:Oper),ops[c]? = some oc∧clsOf oc.op = .chain∧listed.getD c false=false∧(c,i)∈st∧c<i
    ·
      have hmin:∃ (c:Nat) (oc:Oper),(ops[c]? = some oc∧clsOf oc.op = .chain∧listed.getD c false=false∧(c,i)∈st∧c<i)∧∀ (c':Nat) (oc':Oper),(ops[c']? = some oc'∧clsOf oc'.op = .chain∧listed.getD c' false=false∧(c',i)∈st∧c'<i)→c≤c':=by
        have key:∀ (k c:Nat) (oc:Oper),c=k→(ops[c]? = some oc∧clsOf oc.op = .chain∧listed.getD c false=false∧(c,i)∈st∧c<i)→∃ (c:Nat) (oc:Oper),(ops[c]? = some oc∧clsOf oc.op = .chain∧listed.getD c false=false∧(c,i)∈st∧c<i)∧∀ (c':Nat) (oc':Oper),(ops[c']? = some oc'∧clsOf oc'.op = .chain∧listed.getD c' false=false∧(c',i)∈st∧c'<i)→c≤c':=by
          intro k
          induction k using fS with
          | _ k ihk=>
            intro c oc hk hcc;by_cases hb:∃ (c':Nat) (oc':Oper),(ops[c']? = some oc'∧clsOf oc'.op = .chain∧listed.getD c' false=false∧(c',i)∈st∧c'<i)∧c'<c;obtain⟨c',oc',h1,h2⟩:=hb;exact ihk c' aA c' oc' rfl h1;exact⟨c,oc,hcc,fun c' oc' h1=>dV fun h2=>hb ⟨c',oc',h1,by omega⟩⟩
        obtain⟨c,oc,h⟩:=hsty;exact key _ c oc rfl h
      obtain⟨c,oc,⟨hoc,hcc,hcl,hcs,hlt⟩,hcm⟩:=hmin;have hclt:=(dU.1 hoc).1;have hrel:HRel φ (hs c) w:=by
        refine hcomp0 c ?_ aA;intro c' oc' hoc' hcc' _ hside;rcases hside with ⟨h1,h2⟩|⟨h1,h2⟩
        rcases hok.read c' i oc' o hoc' ho hcc' hc with h|h|h|h'
        exact h;have:=h.lt hok; omega;have:=h.ready I.closed ho hedges;rw[h2] at this; cases this;have:=hcm c' oc' ⟨hoc',hcc',h2,h',by omega⟩; omega;by_cases hce:c'=c;subst hce; rw[hcl] at h2; cases h2;have:=(hok.chain c' c oc' oc hoc' hoc hcc' hcc aA).closed I.closed h2;rw[hcl] at this; cases this
      have hsb:=hstab c i o hcs hclt ho hc;rw[if_neg aA] at hsb;obtain⟨cv,hrun,hv⟩:=areadR_sound (ev:=a.eval) hrel hopnd hsb;exact wp_of_run hrun (hrest φ _ w (I.still T hok ho hedges hst.2 hv hL))
    have hrel:HRel φ (hs i) w:=by
     refine hcomp0 i ?_ aA;intro c oc hoc hcc _ hside;have hne:=hci c oc hoc hcc;rcases hok.read c i oc o hoc ho hcc hc with h|h|h|h'
     exact h;have hlt:=h.lt hok;rcases hside with ⟨h1,_⟩|⟨_,h2⟩
     omega;have:=h.closed I.closed h2;rw[hun] at this; cases this;have hlt:=h.lt hok;have:=h.ready I.closed ho hedges;rcases hside with ⟨_,h2⟩|⟨h1,_⟩
     rw[h2] at this; cases this;omega;rcases hside with ⟨h1,h2⟩|⟨h1,h2⟩
     exact absurd ⟨c,oc,hoc,hcc,h2,h',h1⟩ hsty;exact absurd ⟨c,oc,hoc,hcc,h2,h',by omega⟩ hstx
    obtain⟨c,hrun,hv⟩:=hst.1 φ w a.eval hrel hopnd;exact wp_of_run hrun (hrest φ _ w (I.still T hok ho hedges hst.2 hv hL))
   | allo=>
    unfold SemStep at hst; rw[hc] at hst;obtain⟨mk,cs,hal,hvs,hh⟩:=hst;obtain⟨c,e,v,hrun,hlen,hcells,hval⟩:=aallo_sound (ev:=a.eval) (w:=w) hopnd hal;refine wp_of_run hrun (hrest _ _ _ (I.allo T hok hstA ho hun hc hedges hh hlen hcells ?_ hL));rw[hvs];exact hval _ _ (Emb.upd_same _ _ _)
   | chain=>
    have hrel:HRel φ (hs i) w:=by
     refine hcomp0 i ?_ aA;intro c oc hoc hcc _ hside;rcases hside with ⟨h1,h2⟩|⟨h1,h2⟩
     have:=(hok.chain i c o oc ho hoc hc hcc h1).ready I.closed ho hedges;rw[h2] at this; cases this;by_cases hci:c=i;subst hci; rw[hun] at h2; cases h2;have:=(hok.chain c i oc o hoc ho hcc hc aA).closed I.closed h2;rw[hun] at this; cases this
    unfold SemStep at hst; rw[hc] at hst;refine hst.2 φ a w _ Q (fun b h1 h2=>I.free i hin hun b h1 h2) hrel hopnd ?_;intro φ' c w' t r' hv;exact hrest φ' _ w' (I.chain T hok hf0 ho hun hc hedges t r' hv hL)
end drawn
theorem AW.region_run {P : Program} {id : Nat} {ops : Array Oper} {ex : List Nat} {st : List (Nat × Nat)} {sz : Nat} {Q : Ex → List AV → AHeap → Prop} {fr : List AV} {h : AHeap} (hm : P.follows .mixedOrders = true)
    (hok:RgOk sz ops ex st) (hsz:fr.length=sz) {vs:Nat→AV} {frs:Nat→List AV} {hs:Nat→AHeap} (e1:frs 0=fr) (e2:hs 0=h) (hK:Q .normal (frs ops.size) (hs ops.size))
    (hts:∀ i o,i<ops.size→ops[i]? = some o→TS P ops ex i o (frs i) (hs i) (vs i) (frs (i+1)) (hs (i+1)))
    (hstab:∀ c r (o:Oper),(c,r)∈st→c<ops.size→ops[r]? = some o→clsOf o.op = .read→areadR P (hs (if r<c then c+1 else c)) (evalA (hs r).globs (frs r)) o.op=some (vs r)) (hstA:∀ c j (o:Oper),(c,j)∈st→c<ops.size→ops[j]? = some o→clsOf o.op = .allo→(hs (c+1)).get (hs j).next=(hs c).get (hs j).next):AW P (.region id ops true) Q fr h:=by
 have hgrow:HGrow h (hs ops.size):=by
  have:∀ i,i≤ops.size→HGrow (hs 0) (hs i):=by
   intro i
   induction i with
   | zero=>intro _; exact HGrow.refl _
   | succ i ih=>intro hi; exact(ih (by omega)).trans (hts i _ (by omega) (dO (by omega))).grow
  rw[←e2];exact this _ (dS _)
 refine⟨.normal,frs ops.size,hs ops.size,⟨hgrow,?_⟩,hK⟩;intro D φ a w hfr s;refine wp_region_any hm ?_;rw[←e1,←e2] at s;rw[←e2] at hfr;obtain⟨g0,gn,hst⟩:=text_states hts hfr s;have T:Txt P ops ex sz vs frs hs:=by
  refine⟨hts,?_,fun i hi=>(g0 i hi).globs,by rw[e1]; exact hsz⟩;intro i hi;obtain⟨φ',a',w',s',_⟩:=hst i hi;exact s'.heap.ext
 have hdrew:({w with drawn:=w.drawn+1}:World)=w.drew:=rfl;rw[hdrew];refine Inv.all (D:=D) T hok hstab hstA hfr (Q:=fun e' a' w'=>e'=Ex.normal.toExit∧∃ φ',Trans φ h w φ' (hs ops.size) w'∧Sim D φ' (frs ops.size) (hs ops.size) a' w') (w0:=w.drew) ?_ ops.size _ φ a w.drew (by simp) ?_ ?_;intro φ' a' w' t s';rw[e2] at t;exact⟨rfl,φ',t.drew,s'⟩;exact fD List.countP_le_length (by simp);have hno:∀ k,(Array.replicate ops.size false).getD k false=false:=by
  intro k;rw[dT];by_cases hk:k<ops.size;simp[hk];simp[hk]
 have hd:=s.heap.drew;refine⟨?_,?_,s.fr.1,?_,?_,?_,?_,?_,hd.glob,hd.lt,?_,?_,Emb.le_refl φ,?_,?_,fun _ _ _=>rfl,rfl,rfl,rfl,dS _⟩;intro i o e _ h _ _; rw[hno] at h; cases h;intro i h; rw[hno] at h; cases h;rw[←s.fr.2.1,e1]; exact hsz;intro i o d v _ h _ _; rw[hno] at h; cases h;intro t x v _ hx hv; exact s.fr.2.2 t x v hx hv;intro i hi _ b h1 h2;exact hfr b (fD (g0 i (by omega)).next h1) (fA h2 (gn (i+1) (by omega)).next);intro i h; rw[hno] at h; cases h;intro i hi hcomp;refine T.up (dX i) hi ?_ ?_ hd;intro k _ hk oc hoc hcc hne;exact hcomp k oc hoc hcc hne (.inl ⟨hk,hno k⟩);intro k o _ hk _;refine .inl ?_;intro b h1 h2;exact hfr b (fD (g0 k (by omega)).next h1) (fA h2 (gn (k+1) (by omega)).next);intro j o cs _ h _ _ _; rw[hno] at h; cases h;intro b p h1 h2; rw[h1] at h2; cases h2;intro b k i z h1 h2; rw[h1] at h2; cases h2
theorem AW.region_draw {P : Program} {id : Nat} {ops : Array Oper} {l : List Oper} {ex : List Nat} {sz : Nat} {Q : Ex → List AV → AHeap → Prop} {fr : List AV} {h : AHeap} (hm : P.follows .mixedOrders = true) (hl : ops.toList = l)
    (hok:RgOk sz ops ex []) (hsz:fr.length=sz) (hw:AOps P ops ex (Q .normal) 0 l fr h):AW P (.region id ops true) Q fr h:=by
 subst hl;obtain⟨vs,frs,hs,e1,e2,hK,hall⟩:=aops_text hok.ntx ops.toList 0 fr h (by simp) hw;simp only[fG,fH] at hK hall;exact AW.region_run hm hok hsz e1 e2 hK (fun i o hi ho=>hall i o (dX _) hi ho) (fun c r o hc=>by cases hc) (fun c r o hc=>by cases hc)
theorem AW.region_drawS {P : Program} {id c r t a d : Nat} {ops : Array Oper} {l1 l2 : List Oper} {ex : List Nat} {sz : Nat} {o : Oper} {Q : Ex → List AV → AHeap → Prop} {fr : List AV} {h : AHeap} (hm : P.follows .mixedOrders = true) (hl : ops.toList = l1 ++ l2) (hc : l1.length = c + 1)
    (hok:RgOk sz ops ex [(c,r)]) (hsz:fr.length=sz) (hrc:r<c) (ho:ops[r]? = some o) (hop:o.op = .load t (.tmp a)) (hod:o.dst=some d) (hdz:d<sz) (hno:∀ j (oj:Oper),r≤j→j≤c→ops[j]? = some oj→oj.dst≠some a∧(r<j→oj.dst≠some d))
    (hw:AOps P ops ex (fun fr1 h1=>K9 P h1 t (fr1.getD a .bot)=some (fr1.getD d .bot)∧AOps P ops ex (Q .normal) (c+1) l2 fr1 h1) 0 l1 fr h):AW P (.region id ops true) Q fr h:=by
 have hsize:ops.size=l1.length+l2.length:=by rw[←fH,hl,fJ]
 have g1:∀ i,i<l1.length→l1[i]? = ops[0+i]?:=by
  intro i hi;rw[fG,←dZ,hl,fN hi]
 have g2:∀ i,l2[i]? = ops[c+1+i]?:=by
  intro i;rw[←dZ,hl,fL (by omega),hc,fR]
 obtain⟨vs1,frs1,hs1,e1,e2,⟨hchk,hK1⟩,hall1⟩:=aops_textP hok.ntx l1 0 fr h g1 hw;simp only[fG,hc] at hchk hK1 hall1;obtain⟨vs2,frs2,hs2,e3,e4,hK2,hall2⟩:=aops_text hok.ntx l2 (c+1) _ _ g2 hK1;have hlen:∀ i,i≤c+1→(frs1 i).length=sz:=by
  intro i
  induction i with
  | zero=>intro _; rw[e1]; exact hsz
  | succ i ih=>
   intro hi;have ht:=hall1 i _ (dX _) (by omega) (dO (by omega));rw[ht.1];unfold setF;split;rw[gB]; exact ih (by omega);exact ih (by omega)
 have hget:∀ (l:List AV) (dst:Option Tmp) (v:AV) (x:Nat),dst≠some x→(setF l dst v).getD x .bot=l.getD x .bot:=by
  intro l dst v x hx;unfold setF;split;rename_i y;rw[dY,dY,fB (by rintro rfl; exact hx rfl)];rfl
 have ha:∀ j,r≤j→j≤c+1→(frs1 j).getD a .bot=(frs1 r).getD a .bot:=by
  intro j h1
  induction j with
  | zero=>intro _; rw[show r=0 by omega]
  | succ j ih=>
   intro h2;rcases fK h1 with h3|h3
   have ho2:=dO (xs:=ops) (i:=j) (by omega);have ht:=hall1 j _ (dX _) (by omega) ho2;rw[ht.1,hget _ _ _ _ (hno j _ (by omega) (by omega) ho2).1,ih (by omega) (by omega)];rw[←h3]
 have hd:∀ j,r<j→j≤c+1→(frs1 j).getD d .bot=vs1 r:=by
  intro j h1
  induction j with
  | zero=>omega
  | succ j ih=>
   intro h2;have ho2:=dO (xs:=ops) (i:=j) (by omega);have ht:=hall1 j _ (dX _) (by omega) ho2;rw[ht.1];by_cases hj:j=r;subst hj;rw[ho2] at ho;cases ho;rw[hod];simp only[setF];rw[dY,fT (by rw[hlen j (by omega)]; exact hdz)];rfl;rw[hget _ _ _ _ ((hno j _ (by omega) (by omega) ho2).2 (by omega))];exact ih (by omega) (by omega)
 refine AW.region_run hm hok hsz (vs:=fun i=>if i≤c then vs1 i else vs2 i) (frs:=fun i=>if i≤c then frs1 i else frs2 i) (hs:=fun i=>if i≤c then hs1 i else hs2 i) (by simp[e1]) (by simp[e2]) ?_ ?_ ?_ (by
  intro c' j' o' hcr _ ho' hcl;obtain⟨rfl,rfl⟩:c'=c∧j'=r:=by simpa using hcr
  rw[ho] at ho';cases ho';rw[hop] at hcl
  cases hcl)
 simp only[if_neg (show¬ ops.size≤c by omega)];rw[show ops.size=c+1+l2.length by omega];exact hK2;intro i oi hi hoi;by_cases h1:i≤c;have ht:=hall1 i oi (dX _) (by omega) hoi;by_cases h2:i+1≤c;simp only[if_pos h1,if_pos h2]; exact ht;have h3:i=c:=by omega
 subst h3;simp only[if_pos h1,if_neg h2,e3,e4];exact ht;simp only[if_neg h1,if_neg (show¬ i+1≤c by omega)];exact hall2 i oi (by omega) (by omega) hoi;intro c' r' o' hcr _ ho' _;obtain⟨rfl,rfl⟩:c'=c∧r'=r:=by simpa using hcr
 rw[ho] at ho';cases ho';rw[if_pos hrc];simp only[if_neg (show¬ c'+1≤c' by omega),if_pos (show r'≤c' by omega),e4];rw[hop];show K9 P _ t ((frs1 r').getD a .bot)=_;rw[←ha (c'+1) (by omega) (dS _),←hd (c'+1) (by omega) (dS _)];exact hchk
theorem AW.region_drawB {P : Program} {id c r t a d : Nat} {ops : Array Oper} {l1 l2 : List Oper} {ex : List Nat} {sz : Nat} {o : Oper} {Q : Ex → List AV → AHeap → Prop} {fr : List AV} {h : AHeap} (hm : P.follows .mixedOrders = true) (hl : ops.toList = l1 ++ l2) (hc : l1.length = c)
    (hok:RgOk sz ops ex [(c,r)]) (hsz:fr.length=sz) (hcr:c<r) (ho:ops[r]? = some o) (hop:o.op = .load t (.tmp a)) (hod:o.dst=some d) (hdz:d<sz) (hno:∀ j (oj:Oper),r≤j→ops[j]? = some oj→oj.dst≠some a∧(r<j→oj.dst≠some d))
    (hw:AOps P ops ex (fun fr1 h1=>AOps P ops ex (fun fr2 h2=>K9 P h1 t (fr2.getD a .bot)=some (fr2.getD d .bot)∧Q .normal fr2 h2) c l2 fr1 h1) 0 l1 fr h):AW P (.region id ops true) Q fr h:=by
 have hsize:ops.size=l1.length+l2.length:=by rw[←fH,hl,fJ]
 have g1:∀ i,i<l1.length→l1[i]? = ops[0+i]?:=by
  intro i hi;rw[fG,←dZ,hl,fN hi]
 have g2:∀ i,l2[i]? = ops[c+i]?:=by
  intro i;rw[←dZ,hl,fL (by omega),hc,fR]
 obtain⟨vs1,frs1,hs1,e1,e2,hK1,hall1⟩:=aops_textP hok.ntx l1 0 fr h g1 hw;simp only[fG,hc] at hK1 hall1;obtain⟨vs2,frs2,hs2,e3,e4,⟨hchk,hK2⟩,hall2⟩:=aops_text hok.ntx l2 c _ _ g2 hK1;have hend:c+l2.length=ops.size:=by omega
 rw[hend] at hchk hK2 hall2;have hrs:r<ops.size:=(dU.1 ho).1;have hset:∀ (l:List AV) (dst:Option Tmp) (v:AV),(setF l dst v).length=l.length:=by
  intro l dst v;unfold setF;split <;> simp
 have hlen1:∀ i,i≤c→(frs1 i).length=sz:=by
  intro i
  induction i with
  | zero=>intro _; rw[e1]; exact hsz
  | succ i ih=>
   intro hi;have ht:=hall1 i _ (dX _) (by omega) (dO (by omega));rw[ht.1,hset]; exact ih (by omega)
 have hlen2:∀ i,c≤i→i≤ops.size→(frs2 i).length=sz:=by
  intro i h1
  induction i with
  | zero => intro _; obtain rfl : c = 0 := by omega
            rw[e3]; exact hlen1 _ (dS _)
  | succ i ih=>
   intro hi;rcases fK h1 with h3|h3
   have ht:=hall2 i _ (by omega) (by omega) (dO (by omega));rw[ht.1,hset]; exact ih (by omega) (by omega);rw[←h3,e3]; exact hlen1 _ (dS _)
 have hget:∀ (l:List AV) (dst:Option Tmp) (v:AV) (x:Nat),dst≠some x→(setF l dst v).getD x .bot=l.getD x .bot:=by
  intro l dst v x hx;unfold setF;split;rename_i y;rw[dY,dY,fB (by rintro rfl; exact hx rfl)];rfl
 have ha:∀ j,r≤j→j≤ops.size→(frs2 j).getD a .bot=(frs2 r).getD a .bot:=by
  intro j h1
  induction j with
  | zero=>intro _; rw[show r=0 by omega]
  | succ j ih=>
   intro h2;rcases fK h1 with h3|h3
   have ho2:=dO (xs:=ops) (i:=j) (by omega);have ht:=hall2 j _ (by omega) (by omega) ho2;rw[ht.1,hget _ _ _ _ (hno j _ (by omega) ho2).1,ih (by omega) (by omega)];rw[←h3]
 have hd:∀ j,r<j→j≤ops.size→(frs2 j).getD d .bot=vs2 r:=by
  intro j h1
  induction j with
  | zero=>omega
  | succ j ih=>
   intro h2;have ho2:=dO (xs:=ops) (i:=j) (by omega);have ht:=hall2 j _ (by omega) (by omega) ho2;rw[ht.1];by_cases hj:j=r;subst hj;rw[ho2] at ho;cases ho;rw[hod];simp only[setF];rw[dY,fT (by rw[hlen2 j (by omega) (by omega)]; exact hdz)];rfl;rw[hget _ _ _ _ ((hno j _ (by omega) ho2).2 (by omega))];exact ih (by omega) (by omega)
 refine AW.region_run hm hok hsz (vs:=fun i=>if i<c then vs1 i else vs2 i) (frs:=fun i=>if i<c then frs1 i else frs2 i) (hs:=fun i=>if i<c then hs1 i else hs2 i) ?_ ?_ ?_ ?_ ?_ (by
  intro c' j' o' hcr' _ ho' hcl;obtain⟨rfl,rfl⟩:c'=c∧j'=r:=by simpa using hcr'
  rw[ho] at ho';cases ho';rw[hop] at hcl
  cases hcl)
 by_cases h0 : 0<c;simp only[if_pos h0,e1];obtain rfl:c=0:=by omega
 simp only[if_neg h0,e3,e1];by_cases h0 : 0<c;simp only[if_pos h0,e2];obtain rfl:c=0:=by omega
 simp only[if_neg h0,e4,e2];simp only[if_neg (show¬ ops.size<c by omega)];exact hK2;intro i oi hi hoi;by_cases h1:i<c;have ht:=hall1 i oi (dX _) (by omega) hoi;by_cases h2:i+1<c;simp only[if_pos h1,if_pos h2]; exact ht;have h3:i+1=c:=by omega
 simp only[if_pos h1,if_neg h2];rw[h3] at ht⊢;rw[e3,e4];exact ht;simp only[if_neg h1,if_neg (show¬ i+1<c by omega)];exact hall2 i oi (by omega) (by omega) hoi;intro c' r' o' hcr' _ ho' _;obtain⟨rfl,rfl⟩:c'=c∧r'=r:=by simpa using hcr'
 rw[ho] at ho';cases ho';rw[if_neg (show¬ r'<c' by omega)];simp only[if_neg (show¬ c'<c' by omega),if_neg (show¬ r'<c' by omega),e4];rw[hop];show K9 P _ t ((frs2 r').getD a .bot)=_;rw[←ha ops.size (by omega) (dS _),←hd ops.size (by omega) (dS _)];exact hchk
end Go.Am
namespace Go.Am
def inMask (m j:Nat):Bool:=m.testBit j
def XU (acc : List Nat) : List Edge → Nat
  | []=>0
  | e::es=>if dR .any e then (1 <<< e.on) ||| acc.getD e.on 0 ||| XU acc es else XU acc es
def reachM : List Nat → List Oper → List Nat
  | acc,[]=>acc
  | acc,o::os=>reachM (acc ++ [XU acc o.after.toList]) os
theorem Se {ops : Array Oper} {acc : List Nat} {i : Nat} {o : Oper} (ho : ops[i]? = some o) (hacc : ∀ k j, inMask (acc.getD k 0) j = true → Dep ops k j) :
    ∀ (es:List Edge),(∀ e∈es,e∈o.after)→∀ j,inMask (XU acc es) j=true→Dep ops i j:=by
 intro es
 induction es with
 | nil=>intro _ j h; simp[XU,inMask] at h
 | cons e es ih=>
  intro hmem j h;unfold XU at h;split at h;rename_i hb;have he:Dep ops i e.on:=.edge i o e ho (hmem e aK) hb;simp only[inMask,Nat.testBit_or,dQ] at h;rcases h with (h|h)|h
  rw[Nat.testBit_shiftLeft] at h;have:j=e.on:=by
   simp only[dP,decide_eq_true_eq] at h;obtain⟨h1,h2⟩:=h;by_cases hj:j - e.on=0;omega;obtain⟨q,hq⟩:∃ q,j - e.on=q+1:=⟨j - e.on - 1,by omega⟩;rw[hq,Nat.testBit_succ] at h2;simp at h2
  subst this;exact he;exact .trans _ _ _ he (hacc e.on j h);exact ih (fun e' he'=>hmem e' (by simp[he'])) j h;exact ih (fun e' he'=>hmem e' (by simp[he'])) j h
theorem reachM_dep {ops:Array Oper}:∀ (l:List Oper) (acc:List Nat),(∀ i,l[i]? = ops[acc.length+i]?)→(∀ k j,inMask (acc.getD k 0) j=true→Dep ops k j)→∀ k j,inMask ((reachM acc l).getD k 0) j=true→Dep ops k j:=by
 intro l
 induction l with
 | nil=>intro acc _ h; exact h
 | cons o os ih=>
  intro acc hl h;have ho:ops[acc.length]? = some o:=by have:=hl 0; simpa using this.symm
  refine ih (acc ++ [XU acc o.after.toList]) ?_ ?_;intro i;have:=hl (i+1);simp only[fE] at this;rw[this,fJ,List.length_singleton];congr 1; omega;intro k j hkj;rw[dY,List.getElem?_append] at hkj;split at hkj;rw[←dY] at hkj; exact h k j hkj;by_cases hk:k=acc.length;subst hk;simp at hkj;exact Se ho h _ (by intro e he; simpa using he) j hkj;rw[fV aY] at hkj;simp[inMask] at hkj
def isChain (o:Oper):Bool:=clsOf o.op == .chain
def isRead (o:Oper):Bool:=clsOf o.op == .read
def isAllo (o:Oper):Bool:=clsOf o.op == .allo
def tmpsOf (o:Oper):List Nat:=o.op.operands.toList.filterMap fun | .tmp t=>some t|_=>none
def pairOk (ex:List Nat) (st:List (Nat × Nat)) (ri rj:Nat) (i j:Nat) (oi oj:Oper):Bool:=
  (i == j || oi.dst.isNone || !(oi.dst == oj.dst)) &&
  (match oj.dst with
    | some t=>!(tmpsOf oi).contains t || (decide (j<i) && inMask ri j) || (decide (i<j) && inMask rj i)
    | none=>true) &&
  (!(isChain oi && isChain oj && decide (j<i)) || inMask ri j) &&
  (!(isChain oi && isRead oj) || ex.contains i || inMask ri j || inMask rj i || st.contains (i,j)) &&
  (!(isChain oi && isAllo oj && decide (j<i)) || ex.contains i || inMask ri j || st.contains (i,j))
def oneOk (sz:Nat) (ri:Nat) (i:Nat) (o:Oper):Bool:=
  o.after.toList.all (fun e=>!dR .any e || decide (e.on<i)) &&
  (match o.dst with|some d=>decide (d<sz)|none=>true) &&
  (match o.guard with|some (g,_)=>inMask ri g|none=>true)
def rgOk (sz:Nat) (l:List Oper) (ex:List Nat) (st:List (Nat × Nat):=[]):Bool:=
  let rl:=reachM [] l
  !(ex == TXT) && l.zipIdx.all fun(o,i)=>oneOk sz (rl.getD i 0) i o && l.zipIdx.all fun(o',j)=>pairOk ex st (rl.getD i 0) (rl.getD j 0) i j o o'
theorem rgOk_sound {sz:Nat} {ops:Array Oper} {l:List Oper} {ex:List Nat} {st:List (Nat × Nat)} (hl:ops.toList=l) (h:rgOk sz l ex st=true):RgOk sz ops ex st:=by
 subst hl;have hdep:∀ k j,inMask ((reachM [] ops.toList).getD k 0) j=true→Dep ops k j:=reachM_dep ops.toList [] aK (by intro k j h; simp[inMask] at h);unfold rgOk at h;simp only[dP] at h;obtain⟨hntx,h⟩:=h;simp only[fQ] at h;have hmem:∀ i o,ops[i]? = some o→(o,i)∈ops.toList.zipIdx:=by
  intro i o ho;rw[List.mem_zipIdx_iff_getElem?];simpa using ho
 have h1:∀ i o,ops[i]? = some o→oneOk sz ((reachM [] ops.toList).getD i 0) i o=true:=fun i o ho=>(dP _ _ ▸ h (o,i) (hmem i o ho)).1
 have h2:∀ i j oi oj,ops[i]? = some oi→ops[j]? = some oj→pairOk ex st ((reachM [] ops.toList).getD i 0) ((reachM [] ops.toList).getD j 0) i j oi oj=true:=by
  intro i j oi oj hi hj;have:=(dP _ _ ▸ h (oi,i) (hmem i oi hi)).2;exact fQ.1 this (oj,j) (hmem j oj hj)
 refine⟨by simpa using hntx,?_,?_,?_,?_,?_,?_,?_,?_⟩;intro i o e ho he hb;have:=h1 i o ho;simp only[oneOk,dP,fQ] at this;have:=this.1.1 e (by simpa using he);simpa [hb] using this;intro i o d ho hd;have:=h1 i o ho;simp only[oneOk,dP,hd] at this;simpa using this.1.2;intro i j oi oj d hi hj hdi hdj;have:=h2 i j oi oj hi hj;simp only[pairOk,dP,hdi,hdj] at this;have:=this.1.1.1.1;simpa using this;intro i j oi oj t hi hj ht hdj;have:=h2 i j oi oj hi hj;simp only[pairOk,dP,hdj] at this;have:=this.1.1.1.2;have hin:(tmpsOf oi).contains t=true:=by
  simp only[tmpsOf,fY,List.mem_filterMap];exact⟨.tmp t,by simpa using ht,rfl⟩
 simp only[hin,fM,fU,dQ,dP,decide_eq_true_eq] at this;rcases this with ⟨a,b⟩|⟨a,b⟩
 exact .inl ⟨a,hdep _ _ b⟩;exact .inr ⟨a,hdep _ _ b⟩;intro i o g want ho hg;have:=h1 i o ho;simp only[oneOk,dP,hg] at this;exact hdep _ _ this.2;intro i j oi oj hi hj hci hcj hlt;have:=h2 i j oi oj hi hj;simp only[pairOk,dP] at this;have:=this.1.1.2;simp only[isChain,hci,hcj,beq_self_eq_true,hlt,decide_true,fX,fM,fU] at this;exact hdep _ _ this;intro c r oc or hc hr hcc hrr;have:=h2 c r oc or hc hr;simp only[pairOk,dP] at this;have:=this.1.2;simp only[isChain,isRead,hcc,hrr,beq_self_eq_true,fX,fM,fU,dQ] at this;rcases this with ((a|a)|a)|a
 exact .inl a;exact .inr (.inl (hdep _ _ a));exact .inr (.inr (.inl (hdep _ _ a)));simp only[dP,decide_eq_true_eq,fY] at a;exact .inr (.inr (.inr a));intro c j oc oj hc hj hcc hjj hlt;have:=h2 c j oc oj hc hj;simp only[pairOk,dP] at this;have:=this.2;simp only[isChain,isAllo,hcc,hjj,beq_self_eq_true,hlt,decide_true,fX,fM,fU,dQ] at this;rcases this with (a|a)|a
 exact .inl a;exact .inr (.inl (hdep _ _ a));exact .inr (.inr (fY.1 a))
end Go.Am
namespace Go.Am
def Q1 {β:Type} (n:Nat) (k:Nat→β) : β:=match n with|0=>k 0|m+1=>k (m+1)
def seqInt {β:Type} (i:Int) (k:Int→β) : β:=match i with | .ofNat m=>Q1 m fun m=>k (.ofNat m) | .negSucc m=>Q1 m fun m=>k (.negSucc m)
def seqKind {β:Type} (i:IntKind) (k:IntKind→β) : β:=match i with
  | .i8=>k .i8 | .i16=>k .i16 | .i32=>k .i32 | .i64=>k .i64 | .u8=>k .u8 | .u16=>k .u16 | .u32=>k .u32 | .u64=>k .u64
def RS {β:Type} (b:Bool) (k:Bool→β) : β:=match b with|true=>k true|false=>k false
def Z8 {α β : Type} (f : α → (α → β) → β) : List α → (List α → β) → β
  | [],k=>k []
  | x::xs,k=>f x fun x=>Z8 f xs fun xs=>k (x::xs)
def XQ {β : Type} : Nat → AV → (AV → β) → β
  | 0,v,k=>k v
  | n+1,v,k=>match v with
    | .bool b=>RS b fun b=>k (.bool b)
    | .int kd i=>seqKind kd fun kd=>seqInt i fun i=>k (.int kd i)
    | .ptr b o=>Q1 b fun b=>Q1 o fun o=>k (.ptr b o)
    | .slc b o m s f=>Q1 b fun b=>Q1 o fun o=>Q1 m fun m=>Q1 s fun s=>RS f fun f=>k (.slc b o m s f)
    | .mp b=>Q1 b fun b=>k (.mp b)
    | .fn f caps=>Q1 f fun f=>Z8 (XQ n) caps fun caps=>k (.fn f caps)
    | .agg l=>Z8 (XQ n) l fun l=>k (.agg l)
    | .tup l=>Z8 (XQ n) l fun l=>k (.tup l)
    | v=>k v
theorem YP {β:Type} (n:Nat) (k:Nat→β):Q1 n k=k n:=by cases n <;> rfl
theorem seqInt_eq {β:Type} (i:Int) (k:Int→β):seqInt i k=k i:=by cases i <;> simp[seqInt,YP]
theorem seqKind_eq {β:Type} (i:IntKind) (k:IntKind→β):seqKind i k=k i:=by cases i <;> rfl
theorem seqBool_eq {β:Type} (b:Bool) (k:Bool→β):RS b k=k b:=by cases b <;> rfl
theorem Y3 {α β : Type} (f : α → (α → β) → β) (hf : ∀ x k, f x k = k x) : ∀ (l : List α) (k : List α → β), Z8 f l k = k l
  | [],k=>rfl
  | x::xs,k=>by simp[Z8,hf,Y3 f hf xs]
theorem JE {β:Type}:∀ (n:Nat) (v:AV) (k:AV→β),XQ n v k=k v:=by
 intro n
 induction n with
 | zero=>intro v k; rfl
 | succ n ih=>
  intro v k
  cases v <;> simp[XQ,YP,seqInt_eq,seqKind_eq,seqBool_eq,Y3 (XQ n) ih]
def Ui {β:Type} (B:Blk) (k:Blk→β) : β:=match B with
  | .cells none p cs=>Q1 p fun p=>Z8 (XQ 3) cs fun cs=>k (.cells none p cs)
  | .cells (some F) p cs=>Q1 F fun F=>Q1 p fun p=>Z8 (XQ 3) cs fun cs=>k (.cells (some F) p cs)
  | .obj F x=>k (.obj F x)
theorem seqBlk_eq {β:Type} (B:Blk) (k:Blk→β):Ui B k=k B:=by
 cases B with
 | cells F p cs=>cases F <;> simp[Ui,YP,Y3 (XQ 3) (JE 3)]
 | obj _ _=>rfl
def seqAt {β : Type} : List Blk → Nat → (List Blk → β) → β
  | [],_,k=>k []
  | B::Bs,0,k=>Ui B fun B=>k (B::Bs)
  | B::Bs,n+1,k=>seqAt Bs n fun Bs=>k (B::Bs)
def seqLive {β:Type} (l:Option (List Nat)) (k:Option (List Nat)→β) : β:=match l with|none=>k none|some l=>Z8 Q1 l fun l=>k (some l)
def Uj {β:Type} (f:Fam) (k:Fam→β) : β:=match f with|⟨x,l⟩=>Q1 x fun x=>seqLive l fun l=>k ⟨x,l⟩
theorem seqFam_eq {β:Type} (f:Fam) (k:Fam→β):Uj f k=k f:=by
 cases f with|mk x l=>cases l <;> simp[Uj,YP,seqLive,Y3 Q1 YP]
def seqHeap {β:Type} (h:AHeap) (b:Nat) (k:AHeap→β) : β:=match h with
  | ⟨bs,fs,gs⟩=>seqAt bs b fun bs=>Z8 Uj fs fun fs=>k ⟨bs,fs,gs⟩
def RU (h:AHeap) (ρ:Operand→AV) (op:Op):Nat:=match op with
  | .store _ x _=>match ρ x with | .ptr b _=>b|_=>0
  | .call {callee:=.builtin .copy,args,..}=>match args.toList with|x::_=>(match ρ x with | .slc b _ _ _ _=>b|_=>0)|_=>0
  | _=>h.next
def astepC (P:Program) (kill:Bool) (call:FuncId→List AV→AHeap→Option (AV × AHeap)) (h:AHeap) (ρ:Operand→AV) (o:Oper):Option (AV × AHeap):=
  match clsOf o.op with
  | .pure=>match apure P ρ o.op with|some v=>some (v,h)|none=>none
  | .read=>match areadR P h ρ o.op with|some v=>some (v,h)|none=>none
  | .allo=>match aallo P ρ o.op with|some (mk,cs)=>seqHeap (h.alloc cs) h.next fun h'=>some (mk.val h.next,h')|none=>none
  | .chain=>match o.op with
    | .call {callee:=.value g,args,..}=>match ρ g with
      | .fn f caps=>call f (args.toList.map ρ ++ caps) h
      | _=>none
    | op=>match Zo P kill h ρ op with
      | some (v,h')=>seqHeap h' (RU h ρ op) fun h'=>some (v,h')
      | none=>none
def setS {β : Type} : List AV → Nat → AV → (List AV → β) → β
  | [],_,_,k=>k []
  | _::xs,0,v,k=>k (v::xs)
  | x::xs,n+1,v,k=>setS xs n v fun xs=>k (x::xs)
theorem setS_eq {β : Type} : ∀ (l : List AV) (n : Nat) (v : AV) (k : List AV → β), setS l n v k = k (l.set n v)
  | [],_,_,k=>rfl
  | _::xs,0,v,k=>rfl
  | x::xs,n+1,v,k=>by simp[setS,setS_eq xs n v]
def putS {β:Type} (fr:List AV) (dst:Option Tmp) (v:AV) (k:List AV→β) : β:=match dst with
  | some d=>XQ 3 v fun v=>setS fr d v k
  | none=>k fr
theorem Va {β:Type} (fr:List AV) (dst:Option Tmp) (v:AV) (k:List AV→β):putS fr dst v k=k (setF fr dst v):=by
 cases dst <;> simp[putS,setF,JE,setS_eq]
def isApp (o:Oper):Bool:=match o.op with | .call {callee:=.builtin .append,..}=>true|_=>false
def YL (l:List Oper):List Nat:=(l.zipIdx.filter fun p=>isApp p.1).map (·.2)
theorem HExt.push {h:AHeap} {F q x:Nat} {cs:List AV} {f:Fam} (hf:h.fam F=some f):HExt h ((h.push (.cells (some F) q cs)).setFam F ⟨x,f.live.map (h.next :: ·)⟩):=by
 have hFlt:=AHeap.fam_lt hf;refine⟨by rw[AHeap.next_setFam,AHeap.next_push]; omega,fun b hb=>by rw[AHeap.get_setFam,AHeap.get_push,if_neg aA],?_⟩;intro b hb;simp only[AHeap.valid,AHeap.get_setFam,AHeap.get_push,if_neg (show¬ b=h.next by omega)]
 cases hg:h.get b with
 | none=>rfl
 | some B=>
  cases B with
  | obj _ _=>rfl
  | cells F' p' cs'=>
   cases F' with
   | none=>rfl
   | some F'=>
    simp only[AHeap.fam_setFam,AHeap.fam_push];by_cases hFF:F'=F
    ·subst hFF;have:F'<(h.push (.cells (some F') q cs)).nfam:=hFlt;rw[if_pos ⟨rfl,this⟩,hf]
     cases hlv:f.live with
     | none=>simp[Fam.sees,hlv]
     | some l=>
      simp only[Fam.sees,hlv,Option.map_some,List.contains_cons];have:(b == h.next)=false:=by simp; omega
      rw[this,fU]
    rw[if_neg (by simp[hFF])]
theorem SU {P:Program} {h h':AHeap} {t:TypeId} {x y v:AV} (wf:WFH h) (hs:Xx P false h t x y=some (v,h')):HExt h h':=by
 simp only[Xx,fZ,fI] at hs;obtain⟨e,he,s,hsz,z,hz,zs,hzs,i,hi,⟨n,olds⟩,hxo,⟨m,news⟩,hyo,hs⟩:=hs;split at hs
 cases hs; exact HExt.refl _
 split at hs;split at hs
 cases hs; exact HExt.alloc' wf _
 cases hs; exact HExt.alloc' wf _
 split at hs;simp only[fI] at hs;obtain⟨f,hf,hs⟩:=hs;split at hs
 cases hs; exact HExt.push hf
 simp at hs;cases hs;cases hs;cases hs
theorem TN {P:Program} {h h':AHeap} {t t':TypeId} {x y v:AV} (wf:WFH h) (hs:Yk P h t t' x y=some (v,h')):HExt h h':=by
 unfold Yk at hs;split at hs;simp only[fZ,fI] at hs;obtain⟨e,he,s,hsz,z,hz,zs,hzs,i,hi,k,hk',hs⟩:=hs;split at hs
 cases hs; exact HExt.alloc' wf _
 cases hs;cases hs
def Vh (sz : Nat) : Code → Bool
  | .seq a b=>Vh sz a && Vh sz b
  | .cond _ a b=>Vh sz a && Vh sz b
  | .block _ b=>Vh sz b
  | .loop b=>Vh sz b
  | .region _ ops true=>rgOk sz ops.toList (YL ops.toList)
  | _=>true
def acallC (P:Program) (ok:FuncId→Bool) (run:Code→List AV→AHeap→Option (Ex × List AV × AHeap)) (f:FuncId) (args:List AV) (h:AHeap):Option (AV × AHeap):=
  if ok f then
    match P.funcs[f]? with
    | some fn=>match fn.body with
      | some c=>if args.length≤fn.ntmps then
          match run c (Q7 args fn.ntmps) h with
          | some (.normal,fr,h')=>(Z7 fr fn.results.toList).map fun x=>(x,h')
          | some (.ret,fr,h')=>(Z7 fr fn.results.toList).map fun x=>(x,h')
          | _=>none
        else none
      | none=>none
    | none=>none
  else none
def okFn (P:Program) (f:FuncId):Bool:=match P.funcs[f]? with
  | some fn=>!(fn.name == "runtime.NumGoroutine") && (match fn.body with|some c=>Vh fn.ntmps c|none=>false)
  | none=>false
theorem QN {P:Program} {ops:Array Oper} {ex:List Nat} {K K':List AV→AHeap→Prop} (hk:∀ fr h,K fr h→K' fr h):∀ (l:List Oper) (k:Nat) (fr:List AV) (h:AHeap),AOps P ops ex K k l fr h→AOps P ops ex K' k l fr h:=by
 intro l
 induction l with
 | nil=>intro k fr h hh; exact hk _ _ hh
 | cons o os ih=>
  intro k fr h hh;unfold AOps at hh⊢
  cases hg:o.guard with
  | none=>
   simp only[hg] at hh⊢;obtain⟨v,h1,a,b,c⟩:=hh;exact⟨v,h1,a,b,ih _ _ _ c⟩
  | some jw=>
   obtain⟨j,want⟩:=jw;simp only[hg] at hh⊢;obtain⟨b,hb,y,n⟩:=hh;refine⟨b,hb,fun e=>?_,fun e=>ih _ _ _ (n e)⟩;obtain⟨v,h1,a,b,c⟩:=y e;exact⟨v,h1,a,b,ih _ _ _ c⟩
theorem UX {args:List AV} {n:Nat} (h:args.length≤n):(Q7 args n).length=n:=by simp[Q7]; omega
end Go.Am
namespace Go.Am
noncomputable def Wn {α β:Type} (f : α→(α→β)→β) (l:List α):(List α→β)→β:=
  gY (motive:=fun _=>(List α→β)→β) (fun k=>k []) (fun x _ ih k=>f x fun x=>ih fun xs=>k (x::xs)) l
theorem Pp {α β:Type} (f : α→(α→β)→β) (hf:∀ x k,f x k=k x):∀ (l:List α) (k:List α→β),Wn f l k=k l:=by
 intro l
 induction l with
 | nil=>intro k; rfl
 | cons x xs ih=>intro k; show f x (fun x=>Wn f xs fun xs=>k (x::xs))=_; rw[hf,ih]
inductive Tr where
  | lf
  | nd (v:AV) (l r:Tr)
  deriving Inhabited
def Z1 : Nat → Nat → List Bool
  | 0,_=>[]
  | f+1,n=>match n with
    | 0=>[]
    | m+1=>if m % 2=0 then true::Z1 f (m / 2) else false::Z1 f (m / 2)
def path (n:Nat):List Bool:=Z1 12 n
noncomputable def Tr.get? (p:List Bool):Tr→Option AV:=
  gY (motive := fun _ => Tr → Option AV) (fun t => Tr.casesOn (motive := fun _ => Option AV) t none (fun v _ _ => some v))
    (fun b _ ih t=>Tr.casesOn (motive:=fun _=>Option AV) t none (fun _ l r=>gC (motive:=fun _=>Option AV) (ih l) (ih r) b)) p
noncomputable def Tr.getV (p:List Bool):Tr→AV:=
  gY (motive := fun _ => Tr → AV) (fun t => Tr.casesOn (motive := fun _ => AV) t .bot (fun v _ _ => v))
    (fun b _ ih t=>Tr.casesOn (motive:=fun _=>AV) t .bot (fun _ l r=>gC (motive:=fun _=>AV) (ih l) (ih r) b)) p
noncomputable def Tr.setK {β:Type} (v:AV) (p:List Bool):Tr→(Tr→β)→β:=
  gY (motive := fun _ => Tr → (Tr → β) → β) (fun t k => Tr.casesOn (motive := fun _ => β) t (k .lf) (fun _ l r => k (.nd v l r)))
    (fun b _ ih t k=>Tr.casesOn (motive:=fun _=>β) t (k .lf) (fun u l r=>gC (motive:=fun _=>β) (ih l fun l=>k (.nd u l r)) (ih r fun r=>k (.nd u l r)) b)) p
def Tr.set (v : AV) : List Bool → Tr → Tr
  | [],.lf=>.lf
  | [],.nd _ l r=>.nd v l r
  | _::_,.lf=>.lf
  | false::p,.nd u l r=>.nd u (Tr.set v p l) r
  | true::p,.nd u l r=>.nd u l (Tr.set v p r)
theorem Tr.setK_eq {β : Type} (v : AV) : ∀ (p : List Bool) (t : Tr) (k : Tr → β), Tr.setK v p t k = k (t.set v p)
  | [],.lf,k=>rfl
  | [],.nd _ l r,k=>rfl
  | b::p,.lf,k=>by cases b <;> rfl
  | false::p,.nd u l r,k=>by show Tr.setK v p l (fun l=>k (.nd u l r))=_; rw[Tr.setK_eq v p]; rfl
  | true::p,.nd u l r,k=>by show Tr.setK v p r (fun r=>k (.nd u l r))=_; rw[Tr.setK_eq v p]; rfl
theorem Tr.getV_eq : ∀ (p : List Bool) (t : Tr), t.getV p = (t.get? p).getD .bot
  | [],.lf=>rfl
  | [],.nd _ _l _r=>rfl
  | _b::_p,.lf=>rfl
  | false::p,.nd _u l _r=>Tr.getV_eq p l
  | true::p,.nd _u _l r=>Tr.getV_eq p r
theorem Tr.get_set (v : AV) : ∀ (p q : List Bool) (t : Tr), (t.set v p).get? q = if p = q ∧ (t.get? p).isSome then some v else t.get? q
  | [],[],.lf=>rfl
  | [],[],.nd _ l r=>by simp[Tr.set,Tr.get?]
  | [],b::q,.lf=>by simp[Tr.set]
  | [],b::q,.nd _ l r=>by simp[Tr.set]; rfl
  | b::p,q,.lf=>by
    have:Tr.lf.set v (b::p) = .lf:=by cases b <;> rfl
    rw[this];have h:Tr.lf.get? (b::p)=none:=rfl;rw[h]; simp
  | false::p,[],.nd u l r=>by simp[Tr.set]; rfl
  | true::p,[],.nd u l r=>by simp[Tr.set]; rfl
  | false::p,false::q,.nd u l r=>by
    show(l.set v p).get? q=_;rw[Tr.get_set v p q l];have h1:(Tr.nd u l r).get? (false::p)=l.get? p:=rfl;have h2:(Tr.nd u l r).get? (false::q)=l.get? q:=rfl;rw[h1,h2]; simp
  | true::p,true::q,.nd u l r=>by
    show(r.set v p).get? q=_;rw[Tr.get_set v p q r];have h1:(Tr.nd u l r).get? (true::p)=r.get? p:=rfl;have h2:(Tr.nd u l r).get? (true::q)=r.get? q:=rfl;rw[h1,h2]; simp
  | false::p,true::q,.nd u l r=>by
    have h1:(Tr.set v (false::p) (.nd u l r)).get? (true::q)=r.get? q:=rfl;have h2:(Tr.nd u l r).get? (true::q)=r.get? q:=rfl;rw[h1,h2]; simp
  | true::p,false::q,.nd u l r=>by
    have h1:(Tr.set v (true::p) (.nd u l r)).get? (false::q)=l.get? q:=rfl;have h2:(Tr.nd u l r).get? (false::q)=l.get? q:=rfl;rw[h1,h2]; simp
theorem pathF_inj:∀ (f n m:Nat),n<2 ^ f→m<2 ^ f→Z1 f n=Z1 f m→n=m:=by
 intro f
 induction f with
 | zero=>intro n m hn hm _; omega
 | succ f ih=>
  intro n m hn hm h;have e : 2 ^ (f+1)=2*2 ^ f:=by rw[Nat.pow_succ]; omega
  cases n with
  | zero=>
   cases m with
   | zero=>rfl
   | succ m=>simp only[Z1] at h; split at h <;> cases h
  | succ n=>
   cases m with
   | zero=>simp only[Z1] at h; split at h <;> cases h
   | succ m=>
    simp only[Z1] at h;split at h <;> split at h;have:=ih (n / 2) (m / 2) aA aA (by simpa using h); omega;simp at h;simp at h;have:=ih (n / 2) (m / 2) aA aA (by simpa using h); omega
theorem path_inj {n m:Nat} (hn:n<4096) (hm:m<4096) (h:path n=path m):n=m:=pathF_inj 12 n m hn hm h
def Tr.blank (n : Nat) : Nat → Nat → Nat → Tr
  | 0,_,_=>.lf
  | f+1,a,b=>if b<n then .nd (.tup []) (Tr.blank n f (2*a) (2*a+b)) (Tr.blank n f (2*a) (a+b)) else .lf
theorem Tr.blank_get (n:Nat):∀ (f a b m:Nat),0<a→m<2 ^ f - 1→(Tr.blank n f a b).get? (Z1 f m)=if a*m+b<n then some (.tup []) else none:=by
 intro f
 induction f with
 | zero=>intro a b m _ hm; simp at hm
 | succ f ih=>
  intro a b m ha hm;have e : 2 ^ (f+1)=2*2 ^ f:=by rw[Nat.pow_succ]; omega
  unfold Tr.blank;by_cases hb:b<n
  ·rw[if_pos hb]
   cases m with
   | zero=>simp[Z1,hb]; rfl
   | succ m=>
    simp only[Z1];split;rename_i h2;show(Tr.blank n f (2*a) (a+b)).get? (Z1 f (m / 2))=_;rw[ih (2*a) (a+b) (m / 2) aA aA];have : 2*a*(m / 2)+(a+b)=a*(m+1)+b:=by
     have hm2:m=2*(m / 2):=by omega
     generalize m / 2=q at hm2;subst hm2;rw[gO,Nat.mul_one,Nat.mul_comm 2 a,Nat.mul_assoc]; omega
    rw[this];rename_i h2;show(Tr.blank n f (2*a) (2*a+b)).get? (Z1 f (m / 2))=_;rw[ih (2*a) (2*a+b) (m / 2) aA aA];have : 2*a*(m / 2)+(2*a+b)=a*(m+1)+b:=by
     have hm2:m=2*(m / 2)+1:=by omega
     generalize m / 2=q at hm2;subst hm2;have:a*(2*q+1+1)=2*a*q+2*a:=by rw[gO,gO,Nat.mul_comm 2 a,Nat.mul_assoc]; omega
     omega
    rw[this]
  rw[if_neg hb];have hno:¬ a*m+b<n:=by omega
  rw[if_neg hno]
  cases hp:Z1 (f+1) m <;> rfl
def Rep (t:Tr) (fr:List AV):Prop:=fr.length≤2000∧∀ i,i<4095→t.get? (path i)=fr[i]?
theorem Rep.get {t:Tr} {fr:List AV} (r:Rep t fr) (i:Nat) (hi:i<4095):t.getV (path i)=fr.getD i .bot:=by
 rw[Tr.getV_eq,r.2 i hi,dY]
theorem Rep.set {t:Tr} {fr:List AV} (r:Rep t fr) (d:Nat) (hd:d<4095) (v:AV):Rep (t.set v (path d)) (fr.set d v):=by
 refine⟨by simpa using r.1,?_⟩;intro i hi;rw[Tr.get_set,gE,r.2 i hi,r.2 d hd];by_cases h:d=i;subst h;simp only[true_and,if_true];by_cases hl:d<fr.length;simp[hl];simp[hl];have:path d≠path i:=fun hp=>h (path_inj aA aA hp)
 simp[this,h]
theorem Rep.blank (n:Nat) (hn:n≤2000):Rep (Tr.blank n 12 1 0) (List.replicate n (.tup [])):=by
 refine⟨by simpa using hn,?_⟩;intro i hi;show(Tr.blank n 12 1 0).get? (Z1 12 i)=_;rw[Tr.blank_get n 12 1 0 i aA aA,List.getElem?_replicate];simp
end Go.Am
