/-
  Layer 14: forms of lines, numbers.
  Conditions: none.
-/
import Derived.Test.YtgnogfjajnnaoaaGreatDoorCb
import Derived.Test.YtgnogfjajnnaoaaGreatDoorSh
open List renaming getElem?_eq_getElem → dA, getD_eq_getElem?_getD → dE, mem_reverse → dI, mem_cons → dO, getElem?_map → dU, getElem?_eq_none_iff → dY, take_length → dB, dropWhile_cons → dC, set_cons_zero → dD, set_cons_succ → dF, length_cons → dG, length_map → dH
set_option maxRecDepth 99999
set_option maxHeartbeats 4000000
namespace Go.Am
theorem numV_snoc (l:Str) (c:UInt8):Qf (l ++ [c])=10*Qf l+((c.toNat:Int) - 48):=by simp[Qf]
theorem Jm {l:Str} {p:Nat} (hp:p<l.length):Qf (l.take (p+1))=10*Qf (l.take p)+(((l.getD p 0).toNat:Int) - 48):=by
 rw[List.take_add_one,dA hp,Option.toList_some,numV_snoc,dE,dA hp,Option.getD_some]
def XY (c:UInt8):Bool:=decide (48≤c.toNat∧c.toNat≤57)
theorem UF:∀ {l:Str} (p:Nat),p≤l.length→(∀ q,q<p→XY (l.getD q 0)=true)→0≤Qf (l.take p)∧Qf (l.take p)<10 ^ p:=by
 intro l p
 induction p with
 | zero=>intro _ _; rw[List.take_zero]; exact⟨by decide,by decide⟩
 | succ p ih=>
  intro hp hd;obtain⟨h1,h2⟩:=ih aA (fun q hq=>hd q aA);have h3:=hd p aA;rw[XY,decide_eq_true_iff] at h3;rw[Jm aA,Int.pow_succ];omega
theorem VM {l:Str} {m p:Nat} (hp:p<l.length) (h:XY (l.getD p 0)=false):K3 l m=false:=by
 have:(l.all fun c=>decide (48≤c.toNat∧c.toNat≤57))=false:=by
  rw[List.all_eq_false];rw[dE,dA hp,Option.getD_some] at h;refine⟨_,List.getElem_mem hp,?_⟩;unfold XY at h;rw[h]; decide
 unfold K3;rw[this,Bool.and_false]
theorem Ws {l:Str} (h:∀ q,q<l.length→XY (l.getD q 0)=true):(l.all fun c=>decide (48≤c.toNat∧c.toNat≤57))=true:=by
 rw[List.all_eq_true];intro x hx;obtain⟨i,hi,rfl⟩:=List.mem_iff_getElem.1 hx;have:=h i hi;rw[dE,dA hi,Option.getD_some] at this;exact this
theorem form_c {h:AHeap} {k:Str}:ACalls Go.Proofs.Tryz.prog 107 [.str (wd k)] h (fun q h'=>q = .str (wd (OM k))∧h=h'):=by
 refine OL 20 [.tmp 2] Go.Proofs.Tryz.func107 rfl aD rfl rfl (Nat.le_of_ble_eq_true rfl) ?_;show KA _ 20 _ _ [(0,.str (wd k))] _;refine Oa [0] ?_;refine Oa [3] ?_;refine Oz ?_;refine Oa [3,4] ?_;refine Om ?_ ?_
 ·intro c4;refine Oy ?_;refine Od ?_;refine Om ?_ ?_
  ·intro c4;refine bT ?_;refine⟨congrArg (fun l=>AV.str (wd l)) ?_,rfl⟩
   exact bM
  ·intro c4;refine Oa [3,7] ?_;refine Om ?_ ?_
   ·intro c7;refine bT ?_;refine⟨congrArg (fun l=>AV.str (wd l)) ?_,rfl⟩
    exact bM
   ·intro c7;refine Oa [3,9] ?_;refine Om ?_ ?_
    ·intro c9;refine Oy ?_;refine Od ?_;refine Om ?_ ?_
     ·intro c9;refine bT ?_;refine⟨congrArg (fun l=>AV.str (wd l)) ?_,rfl⟩
      exact bM
     ·intro c9;refine Oa [3,13] ?_;refine Om ?_ ?_
      ·intro c13;refine bT ?_;refine⟨congrArg (fun l=>AV.str (wd l)) ?_,rfl⟩
       exact bM
      ·intro c13;refine Oa [3,15] ?_;refine Om ?_ ?_
       ·intro c15;refine OB [15] ?_;refine Om ?_ ?_
        ·intro c15;refine bT ?_;refine⟨congrArg (fun l=>AV.str (wd l)) ?_,rfl⟩
         exact bM
        ·intro c15;refine bP ?_;refine⟨congrArg (fun l=>AV.str (wd l)) ?_,rfl⟩
         exact bM
       ·intro c15;refine Oa [3,15] ?_;refine Om ?_ ?_
        ·intro c15;refine OB [15] ?_;refine Om ?_ ?_
         ·intro c15;refine bT ?_;refine⟨congrArg (fun l=>AV.str (wd l)) ?_,rfl⟩
          exact bM
         ·intro c15;refine bP ?_;refine⟨congrArg (fun l=>AV.str (wd l)) ?_,rfl⟩
          exact bM
        ·intro c15;refine Oa [3,15] ?_;refine Om ?_ ?_
         ·intro c15;refine OB [15] ?_;refine Om ?_ ?_
          ·intro c15;refine bT ?_;refine⟨congrArg (fun l=>AV.str (wd l)) ?_,rfl⟩
           exact bM
          ·intro c15;refine bP ?_;refine⟨congrArg (fun l=>AV.str (wd l)) ?_,rfl⟩
           exact bM
         ·intro c15;refine Oa [15] ?_;refine Om ?_ ?_
          ·intro c15;refine bT ?_;refine⟨congrArg (fun l=>AV.str (wd l)) ?_,rfl⟩
           exact bM
          ·intro c15;refine bP ?_;refine⟨congrArg (fun l=>AV.str (wd l)) ?_,rfl⟩
           exact bM
    ·intro c9;refine Oa [3,9] ?_;refine Om ?_ ?_
     ·intro c9;refine Oy ?_;refine Od ?_;refine Om ?_ ?_
      ·intro c9;refine bT ?_;refine⟨congrArg (fun l=>AV.str (wd l)) ?_,rfl⟩
       exact bM
      ·intro c9;refine Oa [3,13] ?_;refine Om ?_ ?_
       ·intro c13;refine bT ?_;refine⟨congrArg (fun l=>AV.str (wd l)) ?_,rfl⟩
        exact bM
       ·intro c13;refine Oa [3,15] ?_;refine Om ?_ ?_
        ·intro c15;refine OB [15] ?_;refine Om ?_ ?_
         ·intro c15;refine bT ?_;refine⟨congrArg (fun l=>AV.str (wd l)) ?_,rfl⟩
          exact bM
         ·intro c15;refine bP ?_;refine⟨congrArg (fun l=>AV.str (wd l)) ?_,rfl⟩
          exact bM
        ·intro c15;refine Oa [3,15] ?_;refine Om ?_ ?_
         ·intro c15;refine OB [15] ?_;refine Om ?_ ?_
          ·intro c15;refine bT ?_;refine⟨congrArg (fun l=>AV.str (wd l)) ?_,rfl⟩
           exact bM
          ·intro c15;refine bP ?_;refine⟨congrArg (fun l=>AV.str (wd l)) ?_,rfl⟩
           exact bM
         ·intro c15;refine Oa [3,15] ?_;refine Om ?_ ?_
          ·intro c15;refine OB [15] ?_;refine Om ?_ ?_
           ·intro c15;refine bT ?_;refine⟨congrArg (fun l=>AV.str (wd l)) ?_,rfl⟩
            exact bM
           ·intro c15;refine bP ?_;refine⟨congrArg (fun l=>AV.str (wd l)) ?_,rfl⟩
            exact bM
          ·intro c15;refine Oa [15] ?_;refine Om ?_ ?_
           ·intro c15;refine bT ?_;refine⟨congrArg (fun l=>AV.str (wd l)) ?_,rfl⟩
            exact bM
           ·intro c15;refine bP ?_;refine⟨congrArg (fun l=>AV.str (wd l)) ?_,rfl⟩
            exact bM
     ·intro c9;refine Oa [3,9] ?_;refine Om ?_ ?_
      ·intro c9;refine bT ?_;refine⟨congrArg (fun l=>AV.str (wd l)) ?_,rfl⟩
       exact bM
      ·intro c9;refine Oa [3,13] ?_;refine Om ?_ ?_
       ·intro c13;refine bT ?_;refine⟨congrArg (fun l=>AV.str (wd l)) ?_,rfl⟩
        exact bM
       ·intro c13;refine Oa [3,15] ?_;refine Om ?_ ?_
        ·intro c15;refine OB [15] ?_;refine Om ?_ ?_
         ·intro c15;refine bT ?_;refine⟨congrArg (fun l=>AV.str (wd l)) ?_,rfl⟩
          exact bM
         ·intro c15;refine bP ?_;refine⟨congrArg (fun l=>AV.str (wd l)) ?_,rfl⟩
          exact bM
        ·intro c15;refine Oa [3,15] ?_;refine Om ?_ ?_
         ·intro c15;refine OB [15] ?_;refine Om ?_ ?_
          ·intro c15;refine bT ?_;refine⟨congrArg (fun l=>AV.str (wd l)) ?_,rfl⟩
           exact bM
          ·intro c15;refine bP ?_;refine⟨congrArg (fun l=>AV.str (wd l)) ?_,rfl⟩
           exact bM
         ·intro c15;refine Oa [3,15] ?_;refine Om ?_ ?_
          ·intro c15;refine OB [15] ?_;refine Om ?_ ?_
           ·intro c15;refine bT ?_;refine⟨congrArg (fun l=>AV.str (wd l)) ?_,rfl⟩
            exact bM
           ·intro c15;refine bP ?_;refine⟨congrArg (fun l=>AV.str (wd l)) ?_,rfl⟩
            exact bM
          ·intro c15;refine Oa [15] ?_;refine Om ?_ ?_
           ·intro c15;refine bT ?_;refine⟨congrArg (fun l=>AV.str (wd l)) ?_,rfl⟩
            exact bM
           ·intro c15;refine bP ?_;refine⟨congrArg (fun l=>AV.str (wd l)) ?_,rfl⟩
            exact bM
 ·intro c4;refine Oa [3,4] ?_;refine Om ?_ ?_
  ·intro c4;refine bT ?_;refine⟨congrArg (fun l=>AV.str (wd l)) ?_,rfl⟩
   exact bM
  ·intro c4;refine Oa [3,7] ?_;refine Om ?_ ?_
   ·intro c7;refine bT ?_;refine⟨congrArg (fun l=>AV.str (wd l)) ?_,rfl⟩
    exact bM
   ·intro c7;refine Oa [3,9] ?_;refine Om ?_ ?_
    ·intro c9;refine Oy ?_;refine Od ?_;refine Om ?_ ?_
     ·intro c9;refine bT ?_;refine⟨congrArg (fun l=>AV.str (wd l)) ?_,rfl⟩
      exact bM
     ·intro c9;refine Oa [3,13] ?_;refine Om ?_ ?_
      ·intro c13;refine bT ?_;refine⟨congrArg (fun l=>AV.str (wd l)) ?_,rfl⟩
       exact bM
      ·intro c13;refine Oa [3,15] ?_;refine Om ?_ ?_
       ·intro c15;refine OB [15] ?_;refine Om ?_ ?_
        ·intro c15;refine bT ?_;refine⟨congrArg (fun l=>AV.str (wd l)) ?_,rfl⟩
         exact bM
        ·intro c15;refine bP ?_;refine⟨congrArg (fun l=>AV.str (wd l)) ?_,rfl⟩
         exact bM
       ·intro c15;refine Oa [3,15] ?_;refine Om ?_ ?_
        ·intro c15;refine OB [15] ?_;refine Om ?_ ?_
         ·intro c15;refine bT ?_;refine⟨congrArg (fun l=>AV.str (wd l)) ?_,rfl⟩
          exact bM
         ·intro c15;refine bP ?_;refine⟨congrArg (fun l=>AV.str (wd l)) ?_,rfl⟩
          exact bM
        ·intro c15;refine Oa [3,15] ?_;refine Om ?_ ?_
         ·intro c15;refine OB [15] ?_;refine Om ?_ ?_
          ·intro c15;refine bT ?_;refine⟨congrArg (fun l=>AV.str (wd l)) ?_,rfl⟩
           exact bM
          ·intro c15;refine bP ?_;refine⟨congrArg (fun l=>AV.str (wd l)) ?_,rfl⟩
           exact bM
         ·intro c15;refine Oa [15] ?_;refine Om ?_ ?_
          ·intro c15;refine bT ?_;refine⟨congrArg (fun l=>AV.str (wd l)) ?_,rfl⟩
           exact bM
          ·intro c15;refine bP ?_;refine⟨congrArg (fun l=>AV.str (wd l)) ?_,rfl⟩
           exact bM
    ·intro c9;refine Oa [3,9] ?_;refine Om ?_ ?_
     ·intro c9;refine Oy ?_;refine Od ?_;refine Om ?_ ?_
      ·intro c9;refine bT ?_;refine⟨congrArg (fun l=>AV.str (wd l)) ?_,rfl⟩
       exact bM
      ·intro c9;refine Oa [3,13] ?_;refine Om ?_ ?_
       ·intro c13;refine bT ?_;refine⟨congrArg (fun l=>AV.str (wd l)) ?_,rfl⟩
        exact bM
       ·intro c13;refine Oa [3,15] ?_;refine Om ?_ ?_
        ·intro c15;refine OB [15] ?_;refine Om ?_ ?_
         ·intro c15;refine bT ?_;refine⟨congrArg (fun l=>AV.str (wd l)) ?_,rfl⟩
          exact bM
         ·intro c15;refine bP ?_;refine⟨congrArg (fun l=>AV.str (wd l)) ?_,rfl⟩
          exact bM
        ·intro c15;refine Oa [3,15] ?_;refine Om ?_ ?_
         ·intro c15;refine OB [15] ?_;refine Om ?_ ?_
          ·intro c15;refine bT ?_;refine⟨congrArg (fun l=>AV.str (wd l)) ?_,rfl⟩
           exact bM
          ·intro c15;refine bP ?_;refine⟨congrArg (fun l=>AV.str (wd l)) ?_,rfl⟩
           exact bM
         ·intro c15;refine Oa [3,15] ?_;refine Om ?_ ?_
          ·intro c15;refine OB [15] ?_;refine Om ?_ ?_
           ·intro c15;refine bT ?_;refine⟨congrArg (fun l=>AV.str (wd l)) ?_,rfl⟩
            exact bM
           ·intro c15;refine bP ?_;refine⟨congrArg (fun l=>AV.str (wd l)) ?_,rfl⟩
            exact bM
          ·intro c15;refine Oa [15] ?_;refine Om ?_ ?_
           ·intro c15;refine bT ?_;refine⟨congrArg (fun l=>AV.str (wd l)) ?_,rfl⟩
            exact bM
           ·intro c15;refine bP ?_;refine⟨congrArg (fun l=>AV.str (wd l)) ?_,rfl⟩
            exact bM
     ·intro c9;refine Oa [3,9] ?_;refine Om ?_ ?_
      ·intro c9;refine bT ?_;refine⟨congrArg (fun l=>AV.str (wd l)) ?_,rfl⟩
       exact bM
      ·intro c9;refine Oa [3,13] ?_;refine Om ?_ ?_
       ·intro c13;refine bT ?_;refine⟨congrArg (fun l=>AV.str (wd l)) ?_,rfl⟩
        exact bM
       ·intro c13;refine Oa [3,15] ?_;refine Om ?_ ?_
        ·intro c15;refine OB [15] ?_;refine Om ?_ ?_
         ·intro c15;refine bT ?_;refine⟨congrArg (fun l=>AV.str (wd l)) ?_,rfl⟩
          exact bM
         ·intro c15;refine bP ?_;refine⟨congrArg (fun l=>AV.str (wd l)) ?_,rfl⟩
          exact bM
        ·intro c15;refine Oa [3,15] ?_;refine Om ?_ ?_
         ·intro c15;refine OB [15] ?_;refine Om ?_ ?_
          ·intro c15;refine bT ?_;refine⟨congrArg (fun l=>AV.str (wd l)) ?_,rfl⟩
           exact bM
          ·intro c15;refine bP ?_;refine⟨congrArg (fun l=>AV.str (wd l)) ?_,rfl⟩
           exact bM
         ·intro c15;refine Oa [3,15] ?_;refine Om ?_ ?_
          ·intro c15;refine OB [15] ?_;refine Om ?_ ?_
           ·intro c15;refine bT ?_;refine⟨congrArg (fun l=>AV.str (wd l)) ?_,rfl⟩
            exact bM
           ·intro c15;refine bP ?_;refine⟨congrArg (fun l=>AV.str (wd l)) ?_,rfl⟩
            exact bM
          ·intro c15;refine Oa [15] ?_;refine Om ?_ ?_
           ·intro c15;refine bT ?_;refine⟨congrArg (fun l=>AV.str (wd l)) ?_,rfl⟩
            exact bM
           ·intro c15;refine bP ?_;refine⟨congrArg (fun l=>AV.str (wd l)) ?_,rfl⟩
            exact bM
theorem number_c {h:AHeap} {l:Str} {m:Nat} (hm:m≤4) (hl:l.length≤1000000):ACalls Go.Proofs.Tryz.prog 95 [.str (wd l),.int .i64 (m:Int)] h (fun q h'=>q = .tup [.int .i64 (if K3 l m then Qf l else 0),.bool (K3 l m)]∧Keeps h h'):=by
 refine OL 45 [.tmp 4,.tmp 5] Go.Proofs.Tryz.func95 rfl aD rfl rfl (Nat.le_of_ble_eq_true rfl) ?_;have hS:=St.refl h;show KA _ 45 _ _ [(0,.str (wd l)),(1,.int .i64 (m:Int))] _;refine OK [0,1] ?_;refine Ou ?_;refine KOps.wEql ?_;refine Oh ?_;refine OC (dj:=11) rfl rfl false true rfl ?_ ?_
 ·intro g11;have g11:=of_decide_eq_false g11;refine Ou ?_;refine KOps.lenW ?_;refine Ou ?_;refine KOps.gtr ?_;refine OU ?_;refine Oh ?_;refine OC (dj:=17) rfl rfl false true rfl ?_ ?_
  ·intro g17;have g17:=of_decide_eq_false g17;refine Ou ?_;refine KOps.lenW ?_;refine Ol (dj:=17) rfl rfl ?_;refine KOps.gtr ?_;refine Ou ?_;refine OC (dj:=21) rfl rfl true false rfl ?_ ?_
   ·intro g21;have g21:=of_decide_eq_true g21;refine Ou ?_;refine KOps.wAt (j:=0) rfl aC ?_;refine Ol (dj:=21) rfl rfl ?_;refine K9 ?_;refine Ol (dj:=17) rfl rfl ?_;refine KQ ?_;refine OU ?_;refine Ot [0,26] ?_;refine Om ?_ ?_
    ·intro c26;refine OK [4,5] ?_;refine Og ?_;have hq:K3 l m=false:=by
      obtain⟨c,l',rfl⟩:∃ c l',l=c::l':=by
       cases l with
       | nil=>exact absurd rfl g11
       | cons c l'=>exact⟨c,l',rfl⟩
      have hc : c = 48 := UInt8.toNat_inj.1 (by have h48 : (48 : UInt8).toNat = 48 := by decide
                                                rw[h48]; simp at c26; omega)
      have hl1:¬ (c::l').length=1:=by omega
      unfold K3;rw[decide_eq_false hl1,hc];simp
     rw[hq];exact⟨rfl,hS.keeps⟩
    ·intro c26;refine OB [0] ?_;refine Ou ?_;refine Of ?_;refine Od ?_;refine Ou ?_;refine KOps.range hS rfl ?_;intro v28 h' hv28 hS;refine Ot [6,28] ?_;refine Oz ?_;refine Kd (X:=Nat) (fun p=>[(6,.int .i64 (Qf (l.take p))),(28,v28)]) (fun p h'=>p≤l.length∧(∀ q,q<p→XY (l.getD q 0)=true)∧St h h' [walkO v28 (wd l) p]) (fun p=>l.length - p) 0 ?_ ?_;exact⟨Nat.zero_le _,fun q hq=>absurd hq (Nat.not_lt_zero _),hS⟩;rintro p h2 ⟨hp,hb,hS⟩;refine Ox ?_;refine KOps.next hS hv28 (i:=0) rfl rfl ?_ ?_;intro np h' hS;simp only[dD,dF,Nat.zero_add] at hS;have hlt:p<l.length:=by rw[wd_size] at np; exact np
     obtain⟨hn0,hn1⟩:=UF p aA hb;have hn2:(10:Int) ^ p≤10 ^ 4:=by
      have : 10 ^ p≤10 ^ 4:=Nat.pow_le_pow_right aD aA
      exact_mod_cast this
     have hn3:(10:Int) ^ 4=10000:=by decide
     have hu:=(l.getD p 0).toNat_lt;refine K5 ?_;refine bl ?_;refine KN ?_;refine OB [6,28,29] ?_;refine Oz ?_;refine OK [6,8,28] ?_;refine Ou ?_;refine QC ?_;refine Oh ?_;refine OC (dj:=34) rfl rfl false true rfl ?_ ?_;intro g34;have g34:=of_decide_eq_false g34;refine Ou ?_;refine KOps.gtr ?_;refine OU ?_;refine Ot [6,8,28,35,36,37] ?_;refine Om ?_ ?_;intro c37;refine OK [4,5] ?_;refine Og ?_;have hq:K3 l m=false:=VM hlt (by
      unfold XY;rw[decide_eq_false_iff_not];intro hd;rw[Yt hlt aA] at *;simp at *;omega)
     rw[hq];exact⟨rfl,hS.keeps⟩;intro c37;refine OB [6,8,28,35,36] ?_;refine OH rfl ?_;have hd:(l.getD p 0).toNat<128:=by
      apply Classical.byContradiction;intro hn;have:=J5 hlt (show 128≤(l.getD p 0).toNat by omega);omega
     simp only[Yt hlt hd] at hS c37 g34⊢;refine cn ?_;exact Qd (p+1) ae ⟨hlt,fun q hq=>by
      rcases Nat.lt_succ_iff_lt_or_eq.1 hq with g|rfl
      exact hb q g;unfold XY; rw[decide_eq_true_iff]; omega,hS⟩ aA
     intro g34;have g34:=of_decide_eq_true g34;refine QK (dj:=34) rfl rfl rfl ?_;refine KQ ?_;refine Ot [6,8,28,35,36,37] ?_;refine KN ?_;refine OK [4,5] ?_;refine Og ?_;have hq:K3 l m=false:=VM hlt (by
      unfold XY;rw[decide_eq_false_iff_not];intro hd;rw[Yt hlt aA] at *;simp at *;omega)
     rw[hq];exact⟨rfl,hS.keeps⟩
     ·intro np;refine K5 ?_;refine bl ?_;refine ON ?_;refine bQ ?_;refine Oq [6] ?_;refine OK [4,5] ?_;refine Og ?_;have hpe:p=l.length:=by rw[wd_size] at np; omega
      subst hpe;have hq:K3 l m=true:=by
       have h1:=Ws hb;unfold K3;rw[h1,decide_eq_true g11,decide_eq_true (show l.length≤m by omega)];simp;by_cases h2:l.length=1;exact .inl h2
       ·right;intro h3;obtain⟨c,l',rfl⟩:∃ c l',l=c::l':=by
         cases l with
         | nil=>exact absurd rfl g11
         | cons c l'=>exact⟨c,l',rfl⟩
        simp at h3;subst h3
        first
          | (exact absurd rfl c26; done)
          | (simp at c26; done)
          | (rw[dG] at g21 h2; omega)
      rw[hq,dB];exact⟨rfl,hS.keeps⟩
   ·intro g21;have g21:=of_decide_eq_false g21;refine Ou ?_;refine OU ?_;refine OU ?_;refine Ot [0,26] ?_;refine ON ?_;refine OB [0] ?_;refine Ou ?_;refine Of ?_;refine Od ?_;refine Ou ?_;refine KOps.range hS rfl ?_;intro v28 h' hv28 hS;refine Ot [6,28] ?_;refine Oz ?_;refine Kd (X:=Nat) (fun p=>[(6,.int .i64 (Qf (l.take p))),(28,v28)]) (fun p h'=>p≤l.length∧(∀ q,q<p→XY (l.getD q 0)=true)∧St h h' [walkO v28 (wd l) p]) (fun p=>l.length - p) 0 ?_ ?_;exact⟨Nat.zero_le _,fun q hq=>absurd hq (Nat.not_lt_zero _),hS⟩;rintro p h2 ⟨hp,hb,hS⟩;refine Ox ?_;refine KOps.next hS hv28 (i:=0) rfl rfl ?_ ?_;intro np h' hS;simp only[dD,dF,Nat.zero_add] at hS;have hlt:p<l.length:=by rw[wd_size] at np; exact np
    obtain⟨hn0,hn1⟩:=UF p aA hb;have hn2:(10:Int) ^ p≤10 ^ 4:=by
     have : 10 ^ p≤10 ^ 4:=Nat.pow_le_pow_right aD aA
     exact_mod_cast this
    have hn3:(10:Int) ^ 4=10000:=by decide
    have hu:=(l.getD p 0).toNat_lt;refine K5 ?_;refine bl ?_;refine KN ?_;refine OB [6,28,29] ?_;refine Oz ?_;refine OK [6,8,28] ?_;refine Ou ?_;refine QC ?_;refine Oh ?_;refine OC (dj:=34) rfl rfl false true rfl ?_ ?_;intro g34;have g34:=of_decide_eq_false g34;refine Ou ?_;refine KOps.gtr ?_;refine OU ?_;refine Ot [6,8,28,35,36,37] ?_;refine Om ?_ ?_;intro c37;refine OK [4,5] ?_;refine Og ?_;have hq:K3 l m=false:=VM hlt (by
     unfold XY;rw[decide_eq_false_iff_not];intro hd;rw[Yt hlt aA] at *;simp at *;omega)
    rw[hq];exact⟨rfl,hS.keeps⟩;intro c37;refine OB [6,8,28,35,36] ?_;refine OH rfl ?_;have hd:(l.getD p 0).toNat<128:=by
     apply Classical.byContradiction;intro hn;have:=J5 hlt (show 128≤(l.getD p 0).toNat by omega);omega
    simp only[Yt hlt hd] at hS c37 g34⊢;refine cn ?_;exact Qd (p+1) ae ⟨hlt,fun q hq=>by
     rcases Nat.lt_succ_iff_lt_or_eq.1 hq with g|rfl
     exact hb q g;unfold XY; rw[decide_eq_true_iff]; omega,hS⟩ aA
    intro g34;have g34:=of_decide_eq_true g34;refine QK (dj:=34) rfl rfl rfl ?_;refine KQ ?_;refine Ot [6,8,28,35,36,37] ?_;refine KN ?_;refine OK [4,5] ?_;refine Og ?_;have hq:K3 l m=false:=VM hlt (by
     unfold XY;rw[decide_eq_false_iff_not];intro hd;rw[Yt hlt aA] at *;simp at *;omega)
    rw[hq];exact⟨rfl,hS.keeps⟩
    ·intro np;refine K5 ?_;refine bl ?_;refine ON ?_;refine bQ ?_;refine Oq [6] ?_;refine OK [4,5] ?_;refine Og ?_;have hpe:p=l.length:=by rw[wd_size] at np; omega
     subst hpe;have hq:K3 l m=true:=by
      have h1:=Ws hb;unfold K3;rw[h1,decide_eq_true g11,decide_eq_true (show l.length≤m by omega)];simp;by_cases h2:l.length=1;exact .inl h2
      ·right;intro h3;obtain⟨c,l',rfl⟩:∃ c l',l=c::l':=by
        cases l with
        | nil=>exact absurd rfl g11
        | cons c l'=>exact⟨c,l',rfl⟩
       simp at h3;subst h3
       first
         | (exact absurd rfl c26; done)
         | (simp at c26; done)
         | (rw[dG] at g21 h2; omega)
     rw[hq,dB];exact⟨rfl,hS.keeps⟩
  intro g17;have g17:=of_decide_eq_true g17;refine Ou ?_;refine cW ?_;have hq:K3 l m=false:=by
   unfold K3;rw[decide_eq_false (show¬ l.length≤m by omega)];simp
  rw[hq];exact⟨rfl,hS.keeps⟩
 intro g11;have g11:=of_decide_eq_true g11;refine Ou ?_;refine KQ ?_;refine Ou ?_;refine cW ?_;have hq:K3 l m=false:=by
  unfold K3;rw[g11];simp
 rw[hq];exact⟨rfl,hS.keeps⟩
end Go.Am
namespace Go.Am
open Go.RowKit
theorem Ev.of_below {P : Program} {f : FuncId} {args : List AV} {r : AV} {h : AHeap} (hok : Okf P f)
    (hc:∀ (φ:Emb) (w:World) (cs:List Value),HRel φ h w→VRels φ args cs→Calls P f cs.toArray w fun e w'=>∃ v,e = .returned v∧VRel φ r v∧Below w.heap.size w w'):Ev P f args h r h:=by
 refine⟨hok,HGrow.refl h,?_⟩;intro φ w cs _ rr ha;refine(hc φ w cs rr ha).mono ?_;rintro e w' ⟨v,rfl,hv,bel⟩;have hk:∀ k,k<w.heap.size→w'.heap[k]? = w.heap[k]?:=fun k hk=>bel.block k hk
 refine⟨v,φ,rfl,⟨Emb.le_refl φ,fun b h1 h2=>by omega,fun b p h1 h2=>(by rw[h1] at h2; cases h2),fun b k i z h1 h2=>(by rw[h1] at h2; cases h2),fun k hk' _=>hk k hk',bel.os,bel.tape,bel.output,bel.size⟩,?_,hv⟩;refine⟨rr.glob,fun b k i z hb=>Nat.lt_of_lt_of_le (rr.lt b k i z hb) bel.size,?_,?_,rr.one,rr.sep,rr.map,rr.ext⟩;intro b k i z B hb hB hv;exact(rr.blk b k i z B hb hB hv).world (hk k (rr.lt b k i z hb));intro b k i z F p cs hb hB;obtain⟨c,e,h2,h3⟩:=rr.arr b k i z F p cs hb hB;exact⟨c,e,h2.old (hk k (rr.lt b k i z hb)),h3⟩
def VarAt (h:AHeap) (g:Nat) (cs:List AV):Prop:=h.globs.contains g=true∧h.get g=some (.cells none 1 cs)
theorem VarAt.ext {h h':AHeap} {g:Nat} {cs:List AV} (z:VarAt h g cs) (k:Keeps h h'):VarAt h' g cs:=⟨by rw[k.globs]; exact z.1,k.get_some z.2⟩
theorem VarAt.rel {φ:Emb} {h:AHeap} {w:World} {g:Nat} {cs:List AV} (z:VarAt h g cs) (r:HRel φ h w):∃ c e f,w.heap[g]? = some (.cells c e f)∧c.size=cs.length∧∀ (j:Nat) (x:AV),cs[j]? = some x→∃ v,c[j]? = some v∧VRel φ x v:=by
 obtain⟨u,hu⟩:=r.glob g (by simpa using z.1);have hb:=r.blk g g 0 u _ hu z.2 (by unfold AHeap.valid; rw[z.2]);obtain⟨_,c,e,f,h1,h2⟩:=hb.2 rfl;refine⟨c,e,f,h1,h2,fun j x hx=>?_⟩;obtain⟨v,h3,h4⟩:=hb.1 j x hx;refine⟨v,?_,h4⟩;rw[Nat.zero_add] at h3;simpa [World.cell?,h1] using h3
theorem idx1 (c:UInt8):∀ l:Str,Lib.index l [c]=if c∈l then (OW l c:Int) else -1:=by
 intro l
 induction l with
 | nil=>rfl
 | cons a l ih=>
  unfold Lib.index;have hp : [c].isPrefixOf (a::l)=(c == a):=by simp[List.isPrefixOf]
  rw[hp,ih];by_cases h:c=a;subst h; simp[OW];have hb:(c == a)=false:=by simpa using h
  rw[hb];by_cases hm:c∈l;rw[if_neg aD,if_pos hm,if_pos (List.mem_cons_of_mem _ hm)];rw[if_neg (by rw[beq_iff_eq]; omega)];simp only[OW,if_neg h];omega;rw[if_neg aD,if_neg hm,if_neg (fun hc=>(dO.1 hc).elim h hm)];rfl
theorem splitC_no (c:UInt8):∀ l:Str,c ∉ l→OG c l = [l]:=by
 intro l
 induction l with
 | nil=>intro _; rfl
 | cons a l ih=>
  intro h;simp only[dO,not_or] at h;simp only[OG,if_neg (fun e=>h.1 (Eq.symm e)),ih h.2]
theorem splitC_ne (c:UInt8):∀ l:Str,OG c l≠[]:=by
 intro l
 cases l with
 | nil=>simp[OG]
 | cons a l=>
  simp only[OG];split;simp;split <;> simp
theorem splitC_hit (c:UInt8):∀ l:Str,c∈l→OG c l=l.take (OW l c)::OG c (l.drop (OW l c+1)):=by
 intro l
 induction l with
 | nil=>intro h; cases h
 | cons a l ih=>
  intro h;by_cases he:c=a;subst he;simp[OG,OW];have hm:=(dO.1 h).resolve_left he;simp only[OG,if_neg (fun e=>he (Eq.symm e)),OW,if_neg he,ih hm,List.take_succ_cons,List.drop_succ_cons]
theorem VZ (c:UInt8):∀ (k:Nat) (l:Str),Lib.countB (wd l) (wd [c])=k→Lib.splitB (wd [c]) 0 k (wd l)=(OG c l).map wd:=by
 intro k
 induction k with
 | zero=>
  intro l h;by_cases hm:c∈l;exfalso;have hi:Lib.indexB (wd l) (wd [c])=(OW l c:Int):=by
   show Lib.index l [c]=_;rw[idx1,if_pos hm]
  have:=Lib.countB_hit (wd l) (wd [c]) (OW l c) ah hi;omega;rw[splitC_no c l hm];rfl
 | succ k ih=>
  intro l h;by_cases hm:c∈l;have hi:Lib.indexB (wd l) (wd [c])=(OW l c:Int):=by
   show Lib.index l [c]=_;rw[idx1,if_pos hm]
  have h2:=Lib.countB_hit (wd l) (wd [c]) (OW l c) ah hi;have e1:(wd l).extract (OW l c+(wd [c]).size) (wd l).size=wd (l.drop (OW l c+1)):=by
   rw[UV,wd_size,wd_size,dB];rfl
  have e2:(wd l).extract 0 (OW l c+0)=wd (l.take (OW l c)):=by
   rw[UV]; rfl
  rw[e1] at h2;rw[Lib.splitB_hit _ _ _ _ _ hi,e1,e2,splitC_hit c l hm,List.map_cons,ih _ aA];exfalso;have hi:Lib.indexB (wd l) (wd [c]) = -1:=by
   show Lib.index l [c]=_;rw[idx1,if_neg hm]
  have:=Lib.countB_miss (wd l) (wd [c]) hi;omega
def Mx (h:AHeap):Prop:=∃ m:Int,VarAt h 3 [.int .i64 m]
theorem Mx.ext {h h':AHeap} (z:Mx h) (k:Keeps h h'):Mx h':=let⟨m,hm⟩:=z; ⟨m,hm.ext k⟩
theorem split_c {h:AHeap} {l:Str} {c:UInt8} (hM:Mx h) (hl:l.length≤1000000):ACalls Go.Proofs.Tryz.prog 43 [.str (wd l),.str (wd [c])] h (fun q h'=>Vi q∧St h h' [⟨q,1,wcs (OG c l),true⟩]):=by
 have hlen:(OG c l).length=Lib.countB (wd l) (wd [c])+1:=by
  have:=Lib.splitB_all (wd [c]) ah 0 _ (wd l) rfl;rw[VZ c _ l rfl,dH] at this;exact this
 have hle:=Lib.countB_le (wd [c]) ah _ (wd l) (Nat.le_refl _);rw[wd_size] at hle;refine⟨.slc h.next 0 (OG c l).length 1 true,h.alloc (wcs (OG c l)),⟨⟨_,Go.Proofs.Tryz.func43,by decide,rfl⟩,HGrow.alloc _ _,?_⟩,⟨_,_,_,_,_,rfl⟩,St.alloc (St.refl h) (.inl ⟨_,_,rfl,by simp,by decide⟩)⟩;intro φ w cs hfr rr ha;obtain⟨a,b,rfl⟩:∃ a b,cs = [a,b]:=by
  match cs,ha.1 with
  | [a,b],_=>exact⟨a,b,rfl⟩
 have h1:=ha.2 0 _ _ rfl rfl;have h2:=ha.2 1 _ _ rfl rfl
 cases h1; cases h2
 obtain⟨m,hm⟩:=hM;obtain⟨C,e,f,g1,g2,g3⟩:=hm.rel rr;obtain⟨v,g4,g5⟩:=g3 0 _ rfl;cases g5;refine(Go.Proofs.Tryz.strings_Split (wd l) (wd [c]) m w (by rw[wd_size]; omega) (by simp[World.cell?,g1,g4]) ah).mono ?_;rintro e w' ⟨rfl,rfl⟩;have hφ : φ h.next=none:=hfr h.next (Nat.le_refl _) (by rw[AHeap.next_alloc]; omega);have hca:Zi φ (wcs (OG c l)) ((Lib.splitB (wd [c]) 0 (Lib.countB (wd l) (wd [c])) (wd l)).map Value.string).toArray 0:=by
  intro j x hx;rw[dU,Option.map_eq_some_iff] at hx;obtain⟨y,hy,rfl⟩:=hx;refine⟨.string (wd y),?_,.str _⟩;rw[VZ c _ l rfl];simp[hy]
 obtain⟨r',tr⟩:=rr.alloc hφ (wcs (OG c l)) _ 9 (by rw[VZ c _ l rfl]; simp) hca;refine⟨_,_,rfl,tr,r',?_⟩;rw[←hlen];refine .slc _ _ _ _ _ _ _ aA (by unfold maxLen; omega) (fun _=>by omega) (.inr ⟨_,0,_,Emb.upd_same _ _ _,by simp,?_⟩);rw[VZ c _ l rfl];simp
def abc:Str:=[97,98,99,100,101,102,103,104,105,106,107,108,109,110,111,112,113,114,115,116,117,118,119,120,121,122]
theorem trim_c {h:AHeap} {l:Str} (hl:l.length≤1000000):ACalls Go.Proofs.Tryz.prog 140 [.str (wd l),.str (wd abc)] h (fun q h'=>q = .str (wd (Lib.trimS l abc))∧h=h'):=by
 refine⟨_,_,Ev.of_below ⟨_,Go.Proofs.Tryz.func140,by decide,rfl⟩ ?_,rfl,rfl⟩;intro φ w cs _ ha;obtain⟨a,b,rfl⟩:∃ a b,cs = [a,b]:=by
  match cs,ha.1 with
  | [a,b],_=>exact⟨a,b,rfl⟩
 have h1:=ha.2 0 _ _ rfl rfl;have h2:=ha.2 1 _ _ rfl rfl
 cases h1; cases h2
 refine(Go.Proofs.Tryz.strings_Trim_laid (wd l) (wd abc) w (by rw[wd_size]; omega) (by rw[wd_size]; decide) (Go.Proofs.ascii_of_all aD)).mono ?_;rintro e w' ⟨rfl,bel⟩;exact⟨_,rfl,.str _,bel⟩
theorem WL {α:Type} (p : α→Bool):∀ l:List α,l.dropWhile p = []↔∀ x∈l,p x=true:=by
 intro l
 induction l with
 | nil=>simp
 | cons a l ih=>
  rw[dC];by_cases h:p a=true;rw[if_pos h,ih]; simp[h];rw[if_neg h]; simp[h]
theorem trim_nil (l cs:Str):Lib.trimS l cs = []↔∀ c∈l,c∈cs:=by
 unfold Lib.trimS Lib.trimLeftS Lib.trimRightS;rw[WL];constructor
 ·intro h c hc;have key:∀ m:Str,(∀ x∈(m.dropWhile (cs.contains ·)).reverse,cs.contains x=true)→∀ x∈m,cs.contains x=true:=by
   intro m
   induction m with
   | nil=>intro _ x hx; cases hx
   | cons a m ih=>
    intro hm x hx;rw[dC] at hm;by_cases ha:cs.contains a=true;rw[if_pos ha] at hm;rcases dO.1 hx with rfl|hx
    exact ha;exact ih hm x hx;rw[if_neg ha] at hm;exact hm x (dI.2 hx)
  have:=key l.reverse h c (dI.2 hc);simpa using this
 intro h x hx;have:=List.dropWhile_sublist (p:=(cs.contains ·)) (l:=l.reverse);have hm:=this.subset (dI.1 hx);have:=h x (dI.1 hm);simpa using this
def Pow (h:AHeap):Prop:=VarAt h 4 (Lib.pow10Tab.map (AV.int .u64))
theorem itoa_c {h:AHeap} {n:Int} (hP:Pow h) (h0 : -9223372036854775808≤n) (h1:n≤9223372036854775807):ACalls Go.Proofs.Tryz.prog 50 [.int .i64 n] h (fun q h'=>q = .str (wd (Lib.itoa n))∧h=h'):=by
 refine⟨_,_,Ev.of_below ⟨_,Go.Proofs.Tryz.func50,by decide,rfl⟩ ?_,rfl,rfl⟩;intro φ w cs rr ha;obtain⟨a,rfl⟩:∃ a,cs = [a]:=by
  match cs,ha.1 with
  | [a],_=>exact⟨a,rfl⟩
 have h2:=ha.2 0 _ _ rfl rfl;cases h2;obtain⟨C,e,f,g1,g2,g3⟩:=hP.rel rr;have ht:Lib.TabIs Go.Proofs.Tryz.prog w "internal/strconv.uint64pow10" .u64 Lib.pow10Tab:=by
  unfold Lib.TabIs World.var?;have hg:Go.Proofs.Tryz.prog.globalNamed "internal/strconv.uint64pow10" = some 4:=by kernel_rfl
  rw[hg,Option.bind_some,g1];show some C=_;congr 1;apply Array.ext';refine List.ext_getElem? fun j=>?_
  rw[dU]
  cases hj:Lib.pow10Tab[j]? with
  | none=>
   have hlt:=dY.1 hj;rw[Option.map_none,dY,Array.length_toList,g2,dH];exact hlt
  | some x=>
   obtain⟨v,g4,g5⟩:=g3 j (.int .u64 x) (by rw[dU,hj]; rfl);cases g5;simpa using g4
 refine(Go.Proofs.Tryz.strconv_Itoa n h0 h1 w ht).mono ?_;rintro e w' ⟨rfl,k,os,rfl⟩;refine⟨_,rfl,.str _,⟨rfl,rfl,rfl,by show w.heap.size≤(w.heap ++ os).size; rw[Array.size_append]; omega,fun g hg=>?_⟩⟩;show(w.heap ++ os)[g]? = _;exact Array.getElem?_append_left hg
end Go.Am
