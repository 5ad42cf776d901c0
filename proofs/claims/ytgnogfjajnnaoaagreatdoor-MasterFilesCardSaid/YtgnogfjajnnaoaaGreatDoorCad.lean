/-
  Layer 14: the reference: words, forms, numbers, names.
  Conditions: none.
-/
import Derived.Test.YtgnogfjajnnaoaaGreatDoorCab
open List renaming getD_eq_getElem?_getD → fA, getElem?_eq_getElem → fE, mem_iff_getElem → fY, length_drop → fB, length_pos_iff → fC, length_take → fF, take_length → fG, length_singleton → fK, length_append → fM, mem_singleton → fN, getElem_drop → fP, getElem_mem → fQ, mem_append → fR, length_nil → fS
open Nat renaming lt_succ_iff_lt_or_eq → fI, le_of_ble_eq_true → fU, le_refl → fD, not_lt_zero → fH, zero_le → fJ, pow_le_pow_right → fL
open Option renaming getD_some → fO
set_option maxRecDepth 99999
set_option maxHeartbeats 4000000
namespace Go.Am
def XY (l:Str):Prop:=[]∈OH 32 l∨(l.any fun c=>decide (c.toNat<32∨126<c.toNat))=true
instance (l:Str):Decidable (XY l):=inferInstanceAs (Decidable (_∨_))
def okC (c:UInt8):Prop:=32≤c.toNat∧c.toNat≤126
theorem badCh {l:Str} {i:Nat} (hi:i<l.length) (h:¬ okC (l.getD i 0)):XY l:=by
 right;rw[fA,fE hi,fO] at h;rw[List.any_eq_true];refine⟨_,fQ hi,decide_eq_true ?_⟩;unfold okC at h;omega
theorem goodC {l:Str} (h:∀ j,j<l.length→okC (l.getD j 0)):(l.any fun c=>decide (c.toNat<32∨126<c.toNat))=false:=by
 rw[List.any_eq_false];intro c hc;obtain⟨i,hi,rfl⟩:=fY.1 hc;have:=h i hi;rw[fA,fE hi,fO] at this;unfold okC at this;rw[decide_eq_true_eq];omega
theorem toNat32 {c:UInt8}:c.toNat=32↔c=32:=⟨fun h=>UInt8.toNat_inj.1 h,fun h=>by subst h; rfl⟩
theorem TV {l:Str} {f i:Nat} (hf:f≤i) (hi:i<l.length) (hn:∀ j,f≤j→j<i→l.getD j 0≠32) (h:l.getD i 0=32):OH 32 (l.drop f)=(l.take i).drop f::OH 32 (l.drop (i+1)):=by
 have e:l.drop f=(l.take i).drop f ++ 32::l.drop (i+1):=by
  have h1:l.drop i=32::l.drop (i+1):=by
   rw[fA,fE hi,fO] at h;rw[←h,List.getElem_cons_drop]
  rw[←h1,←List.drop_append_of_le_length bE,List.take_append_drop]
 rw[e,WD];intro hm;obtain⟨j,hj,he⟩:=fY.1 hm;rw[fB,fF] at hj;refine hn (f+j) aB aB ?_;rw[fP,List.getElem_take] at he;rw[fA,fE aB,fO,he]
theorem split_end {l:Str} {f:Nat} (hf:f≤l.length) (hn:∀ j,f≤j→j<l.length→l.getD j 0≠32):OH 32 (l.drop f) = [(l.take l.length).drop f]:=by
 rw[fG,Ug];intro hm;obtain⟨j,hj,he⟩:=fY.1 hm;rw[fB] at hj;refine hn (f+j) aB aB ?_;rw[fP] at he;rw[fA,fE aB,fO,he]
structure Wds (l:Str) (f i:Nat) (ws:List Str):Prop where
 fi:f≤i
 il:i≤l.length+1
 ok:∀ j,j<i→j<l.length→okC (l.getD j 0)
 no:∀ j,f≤j→j<i→j<l.length→l.getD j 0≠32
 ne : [] ∉ ws
 mid:i≤l.length→OH 32 l=ws ++ OH 32 (l.drop f)
 fin:l.length<i→OH 32 l=ws
 ln:ws.length≤i
theorem Wds.init (l:Str):Wds l 0 0 []:=⟨fD _,fJ _,fun j h=>by omega,fun j _ h=>by omega,by simp,fun _=>rfl,fun h=>by omega,fD _⟩
theorem Wds.on {l:Str} {f i:Nat} {ws:List Str} (w:Wds l f i ws) (hi:i<l.length) (h1 : 33≤(l.getD i 0).toNat∧(l.getD i 0).toNat≤126):Wds l f (i+1) ws:=by
 refine⟨by have:=w.fi; omega,by omega,fun j h2 h3=>?_,fun j h0 h2 h3=>?_,w.ne,fun _=>w.mid aB,fun h=>by omega,by have:=w.ln; omega⟩
 ·rcases fI.1 h2 with h4|rfl
  ·exact w.ok j h4 h3
  ·unfold okC; omega
 ·rcases fI.1 h2 with h4|rfl
  ·exact w.no j h0 h4 h3
  ·intro e;rw[e] at h1;have:(32:UInt8).toNat=32:=rfl;omega
theorem Wds.sp {l:Str} {f i:Nat} {ws:List Str} (w:Wds l f i ws) (hi:i<l.length) (h1:l.getD i 0=32) (hne:i≠f):Wds l (i+1) (i+1) (ws ++ [(l.take i).drop f]):=by
 have hf:=w.fi;refine⟨fD _,by omega,fun j h2 h3=>?_,fun j h0 h2 h3=>by omega,?_,fun _=>?_,fun h=>by omega,by have:=w.ln; rw[fM,fK]; omega⟩
 ·rcases fI.1 h2 with h4|rfl
  ·exact w.ok j h4 h3
  ·rw[h1]; exact⟨by decide,by decide⟩
 ·intro hm;rw[fR,fN] at hm;rcases hm with hm|hm
  ·exact w.ne hm
  ·have:=congrArg List.length hm;rw[fB,fF,fS] at this;omega
 ·rw[w.mid aB,TV hf hi (fun j a b=>w.no j a b aB) h1,List.append_assoc]; rfl
theorem Wds.en {l:Str} {f i:Nat} {ws:List Str} (w:Wds l f i ws) (hi:i=l.length) (hne:i≠f):Wds l (i+1) (i+1) (ws ++ [(l.take i).drop f]):=by
 subst hi;have hf:=w.fi;refine⟨fD _,by omega,fun j h2 h3=>w.ok j h3 h3,fun j h0 h2 h3=>by omega,?_,fun h=>by omega,fun _=>?_,by have:=w.ln; rw[fM,fK]; omega⟩
 ·intro hm;rw[fR,fN] at hm;rcases hm with hm|hm
  ·exact w.ne hm
  ·have:=congrArg List.length hm;rw[fB,fF,fS] at this;omega
 ·rw[w.mid aB,split_end hf (fun j a b=>w.no j a b b)]
theorem Wds.good {l:Str} {f i:Nat} {ws:List Str} (w:Wds l f i ws) (hi:l.length<i):¬ XY l∧OH 32 l=ws:=by
 have h1:=w.fin hi;refine⟨?_,h1⟩;rintro(h|h)
 ·rw[h1] at h; exact w.ne h
 ·rw[goodC (fun j hj=>w.ok j aB hj)] at h; cases h
theorem Wds.bad {l:Str} {f i:Nat} {ws:List Str} (w:Wds l f i ws) (hi:i≤l.length) (he:i=f) (h1:i=l.length∨l.getD i 0=32):XY l:=by
 left;rw[w.mid hi];subst he;refine List.mem_append_right _ ?_;rcases h1 with rfl|h1
 ·rw[List.drop_length]; simp[OH]
 ·have hlt:i<l.length:=by
   apply Classical.byContradiction;intro hn;rw[fA,List.getElem?_eq_none aB] at h1
   cases h1
  rw[TV (fD _) hlt (fun j a b=>by omega) h1];refine List.mem_cons.2 (.inl ?_);rw[List.drop_eq_nil_of_le bE]
def Uk (l:Str):List Str:=if XY l then [] else OH 32 l
theorem U0 {l:Str} {h h':AHeap} {X:List Obj} (hb:XY l) (st:St h h' X):∃ v,AV.tup [.nils,.bool false] = .tup [v,.bool (!decide (XY l))]∧St h h' [⟨v,1,wcs (Uk l),true⟩]:=by
 refine⟨.nils,by rw[decide_eq_true hb]; rfl,?_⟩;rw[Uk,if_pos hb];exact(St.drop (A:=X) (by rw[List.append_nil]; exact st)).nil 1
theorem is_c {h:AHeap} {n lo hi:Int}:ACalls Go.Proofs.Tryz.prog 118 [.int .i64 n,.int .i64 lo,.int .i64 hi] h (fun q h'=>q = .bool (decide (lo≤n∧n≤hi))∧h=h'):=by
 refine OR 15 [.tmp 6] Go.Proofs.Tryz.func118 rfl aD rfl rfl (fU rfl) ?_;show KA _ 15 _ _ [(0,.int .i64 n),(1,.int .i64 lo),(2,.int .i64 hi)] _;refine Oa [0,1,2] ?_;refine Oc ?_;refine Ox (dj:=10) rfl rfl true false rfl ?_ ?_
 ·intro g10;have g10:=of_decide_eq_true g10;refine Oa [6] ?_;refine Oi ?_;exact⟨congrArg AV.bool (decide_eq_decide.2 ⟨fun q=>⟨g10,q⟩,fun q=>q.2⟩),rfl⟩
 ·intro g10;have g10:=of_decide_eq_false g10;refine Oa [6] ?_;refine Oi ?_;exact⟨congrArg AV.bool (decide_eq_false (fun q=>g10 q.1)).symm,rfl⟩
theorem words_c {h:AHeap} {l:Str} (hl:l.length≤1000000):ACalls Go.Proofs.Tryz.prog 141 [.str (wd l)] h (fun q h'=>∃ v,q = .tup [v,.bool (!decide (XY l))]∧St h h' [⟨v,1,wcs (Uk l),true⟩]):=by
 refine OR 42 [.tmp 2,.tmp 3] Go.Proofs.Tryz.func141 rfl aD rfl rfl (fU rfl) ?_;have hS:=St.refl h;show KA _ 42 _ _ [(0,.str (wd l))] _;refine Oa [0] ?_;refine bo ?_;refine bo ?_;refine dY ?_;refine O7 (X:=Nat × Nat × AV) (fun x=>[(0,.str (wd l)),(4,x.2.2),(5,.int .i64 (x.1:Int)),(6,.int .i64 (x.2.1:Int))]) (fun x h'=>∃ ws,Wds l x.1 x.2.1 ws∧St h h' [⟨x.2.2,1,wcs ws,true⟩]) (fun x=>l.length+1 - x.2.1) (0,0,.nils) ?_ ?_
 ·exact⟨[],Wds.init l,hS.nil 1⟩
 rintro⟨f,i,v4⟩ h2 ⟨ws,hw,hS⟩;dsimp only at hw hS⊢;have hfi:=hw.fi;have hil:=hw.il;have hln:=hw.ln;refine Oa [0,4,5,6,10] ?_;refine Ok ?_ ?_
 ·intro c10;refine Ot [0,4,5,6] ?_;refine dr ?_;refine Ox (dj:=17) rfl rfl true false rfl ?_ ?_
  ·intro g17;have g17:=of_decide_eq_true g17;have hlt:i<l.length:=by omega
   refine Oc ?_;refine QJ (j:=i) rfl aA ?_;refine Oa [0,4,5,6,18,19,20,21,22] ?_;refine O1 ?_ ?_
   ·intro c22
    try have hlt:i<l.length:=by omega
    refine Oc ?_;refine QJ (j:=i) rfl aA ?_;refine Z2 aB (by have:=(l.getD i 0).toNat_lt; omega) ?_;refine Oj rfl (is_c) ?_;rintro _ _ ⟨rfl,rfl⟩;refine Oa [0,4,5,6,18,19,20,21,28] ?_;refine O1 ?_ ?_
    ·intro c28;refine cQ ?_;exact U0 (badCh hlt (by unfold okC; omega)) hS
    ·intro c28;refine Ot [0,4,5,6,18,19,20,21] ?_;refine du ?_;refine bz ?_;exact lpN (f,i+1,v4) ⟨ws,hw.on hlt ⟨by omega,by omega⟩,hS⟩ aK
   ·intro c22;refine Ot [0,4,5,6,18,19,20,21] ?_;refine Oa [0,4,5,6,18,19,20,21,31] ?_;refine Ok ?_ ?_
    ·intro c31;refine cQ ?_;exact U0 (hw.bad aB aB (.inr (toNat32.1 aB))) hS
    ·intro c31;refine Ot [0,4,5,6,18,19,20,21] ?_;refine Oc ?_;refine KOps.wBoth (i:=f) (j:=i) rfl rfl aA aA ?_;refine cJ ?_;intro v37 h' hS;refine Qb hS (fun _=>rfl) (i:=0) rfl aA ?_;intro r38 h' hr38 hS;refine Oa [0,4,6,18,19,20,21] ?_;refine dE ?_;refine Od ?_;refine Ow [0,4,5,6,18,19,20,21] ?_;refine bz ?_;exact lpN (i+1,i+1,r38) ⟨_,hw.sp hlt (toNat32.1 aB) aB,hS⟩ aK
  ·intro g17;have g17:=of_decide_eq_false g17;refine Oa [0,4,5,6,18,19,20,21,22] ?_;refine OW ?_;refine Ot [0,4,5,6,18,19,20,21] ?_;refine Oa [0,4,5,6,18,19,20,21,31] ?_;refine Ok ?_ ?_
   ·intro c31;refine cQ ?_;exact U0 (hw.bad aB aB (.inl aB)) hS
   ·intro c31;refine Ot [0,4,5,6,18,19,20,21] ?_;refine Oc ?_;refine KOps.wBoth (i:=f) (j:=i) rfl rfl aA aA ?_;refine cJ ?_;intro v37 h' hS;refine Qb hS (fun _=>rfl) (i:=0) rfl aA ?_;intro r38 h' hr38 hS;refine Oa [0,4,6,18,19,20,21] ?_;refine dE ?_;refine Od ?_;refine Ow [0,4,5,6,18,19,20,21] ?_;refine bz ?_;exact lpN (i+1,i+1,r38) ⟨_,hw.en aB aB,hS⟩ aK
 ·intro c10;refine bj ?_;refine Ow [4] ?_;refine cQ ?_;obtain⟨h1,h2⟩:=hw.good aB;exact⟨v4,by rw[decide_eq_false h1]; rfl,by rw[Uk,if_neg h1,h2]; exact hS⟩
theorem u8w {a:Int} (h1 : 0≤a) (h2:a≤255):IntKind.u8.wrap a=a:=by
 unfold IntKind.wrap;simp only[IntKind.bits,IntKind.signed,Bool.false_and];rw[if_neg aD];exact Int.emod_eq_of_lt h1 aB
theorem num_all {l:Str} {m:Nat} (hb:∀ q,q<l.length→ZX (l.getD q 0)=true) (h1 : 1≤l.length) (h2:l.length≤m) (h3:¬ (1<l.length∧(l.getD 0 0).toNat=48)):KT l m=true:=by
 have h4:=J2 hb;unfold KT;rw[h4,decide_eq_true (show l≠[] by intro e; subst e; cases h1),decide_eq_true h2]
 cases l with
 | nil=>cases h1
 | cons c l=>
  simp only[List.length_cons,List.getD_cons_zero,List.head?_cons,Bool.true_and,Bool.and_true,Bool.or_eq_true,decide_eq_true_eq,Bool.not_eq_true',decide_eq_false_iff_not,Option.some.injEq] at h3⊢;by_cases h5:l.length+1=1
  ·exact .inl h5
  ·right;intro e;subst e;exact h3 ⟨by omega,by decide⟩
theorem num_len {l:Str} {m:Nat} (h:¬ (1≤l.length∧l.length≤m)):KT l m=false:=by
 cases hq:KT l m with
 | false=>rfl
 | true=>
  obtain⟨h1,h2,_⟩:=isNum_iff.1 hq;exact absurd ⟨fC.2 h1,h2⟩ h
theorem num_zero {l:Str} {m:Nat} (h1 : 1<l.length) (h2:(l.getD 0 0).toNat=48):KT l m=false:=by
 cases hq:KT l m with
 | false=>rfl
 | true=>
  obtain⟨_,_,h3,_⟩:=isNum_iff.1 hq
  cases l with
  | nil=>cases h1
  | cons c l=>
   rcases h3 with h3|h3
   ·omega
   ·exact absurd (congrArg some (UInt8.toNat_inj.1 h2)) h3
def lowC (c:UInt8):Bool:=decide (97≤c.toNat∧c.toNat≤122)
theorem name_no {l:Str} {p:Nat} (hp:p<l.length) (h:lowC (l.getD p 0)=false):XS l=false:=by
 have:(l.all fun c=>decide (97≤c.toNat∧c.toNat≤122))=false:=by
  rw[List.all_eq_false];rw[fA,fE hp,fO] at h;refine⟨_,fQ hp,?_⟩;unfold lowC at h;rw[h]; decide
 unfold XS;rw[this,Bool.and_false]
theorem name_is {l:Str} (h:∀ q,q<l.length→lowC (l.getD q 0)=true):XS l=decide (1≤l.length∧l.length≤12):=by
 have:(l.all fun c=>decide (97≤c.toNat∧c.toNat≤122))=true:=by
  rw[List.all_eq_true];intro x hx;obtain⟨i,hi,rfl⟩:=fY.1 hx;have:=h i hi;rw[fA,fE hi,fO] at this;exact this
 unfold XS;rw[this,Bool.and_true,Bool.decide_and,show decide (l≠[])=decide (1≤l.length) from decide_eq_decide.2 ⟨fun q=>fC.2 q,fun q=>fC.1 q⟩]
theorem form14_c {h:AHeap} {k:Str}:ACalls Go.Proofs.Tryz.prog 142 [.str (wd k)] h (fun q h'=>q = .str (wd (OI k))∧h=h'):=by
  refine OR 37 [.tmp 2] Go.Proofs.Tryz.func142 rfl aD rfl rfl (fU rfl) ?_;show KA _ 37 _ _ [(0,.str (wd k))] _;refine dk ?_;refine Ox (dj:=5) rfl rfl false true rfl ?_ ?_
  · intro g5;have g5:=of_decide_eq_false g5;refine Oa [0,8] ?_;refine Ok ?_ ?_
    · intro c8;refine bt ?_;refine⟨congrArg (fun l=>AV.str (wd l)) ?_,rfl⟩
      exact be
    · intro c8;refine Ot [0] ?_;refine Oa [0,10] ?_;refine Ok ?_ ?_
      · intro c10;refine bt ?_;refine⟨congrArg (fun l=>AV.str (wd l)) ?_,rfl⟩
        exact be
      · intro c10;refine Ot [0] ?_;refine Oc ?_;refine Ox (dj:=13) rfl rfl false true rfl ?_ ?_
        · intro g13;have g13:=of_decide_eq_false g13;refine Oc ?_;refine Ox (dj:=17) rfl rfl false true rfl ?_ ?_
          · intro g17;have g17:=of_decide_eq_false g17;refine Oa [0,20] ?_;refine Ok ?_ ?_
            · intro c20;refine bt ?_;refine⟨congrArg (fun l=>AV.str (wd l)) ?_,rfl⟩
              exact be
            · intro c20;refine Ot [0] ?_;refine Oa [0,22] ?_;refine Ok ?_ ?_
              · intro c22;refine bt ?_;refine⟨congrArg (fun l=>AV.str (wd l)) ?_,rfl⟩
                exact be
              · intro c22;refine Ot [0] ?_;refine Oc ?_;refine Ox (dj:=25) rfl rfl false true rfl ?_ ?_
                · intro g25;have g25:=of_decide_eq_false g25;refine Oc ?_;refine Ox (dj:=29) rfl rfl false true rfl ?_ ?_
                  · intro g29;have g29:=of_decide_eq_false g29;refine Oc ?_;refine Ox (dj:=33) rfl rfl false true rfl ?_ ?_
                    · intro g33;have g33:=of_decide_eq_false g33;refine Oa [36] ?_;refine Ok ?_ ?_
                      · intro c36;refine bt ?_;refine⟨congrArg (fun l=>AV.str (wd l)) ?_,rfl⟩
                        exact be
                      · intro c36;refine Ot [] ?_;refine bo ?_;refine Oi ?_;refine⟨congrArg (fun l=>AV.str (wd l)) ?_,rfl⟩
                        exact be
                    · intro g33;have g33:=of_decide_eq_true g33;refine Oa [36] ?_;refine eC ?_;refine⟨congrArg (fun l=>AV.str (wd l)) ?_,rfl⟩
                      exact be
                  · intro g29;have g29:=of_decide_eq_true g29;refine Oa [36] ?_;refine eC ?_;refine⟨congrArg (fun l=>AV.str (wd l)) ?_,rfl⟩
                    exact be
                · intro g25;have g25:=of_decide_eq_true g25;refine Oa [36] ?_;refine eC ?_;refine⟨congrArg (fun l=>AV.str (wd l)) ?_,rfl⟩
                  exact be
          · intro g17;have g17:=of_decide_eq_true g17;refine Oa [0,20] ?_;refine eC ?_;refine⟨congrArg (fun l=>AV.str (wd l)) ?_,rfl⟩
            exact be
        · intro g13;have g13:=of_decide_eq_true g13;refine Oa [0,20] ?_;refine eC ?_;refine⟨congrArg (fun l=>AV.str (wd l)) ?_,rfl⟩
          exact be
  · intro g5;have g5:=of_decide_eq_true g5;refine Oa [0,8] ?_;refine eC ?_;refine⟨congrArg (fun l=>AV.str (wd l)) ?_,rfl⟩
    exact be
theorem Tk {h:AHeap} {l:Str} {m:Nat} (hm:m≤4) (hl:l.length≤1000000):ACalls Go.Proofs.Tryz.prog 96 [.str (wd l),.int .i64 (m:Int)] h (fun q h'=>q = .tup [.int .i64 (if KT l m then K6 l else 0),.bool (KT l m)]∧h=h'):=by
  refine OR 44 [.tmp 4,.tmp 5] Go.Proofs.Tryz.func96 rfl aD rfl rfl (fU rfl) ?_;show KA _ 44 _ _ [(0,.str (wd l)),(1,.int .i64 (m:Int))] _;refine Ke [0,1] ?_;refine OB ?_;refine KX ?_;refine Oh ?_;refine Oj rfl (is_c) ?_;rintro _ _ ⟨rfl,rfl⟩;refine Zm ?_;refine Oh ?_;refine Ox (dj:=13) rfl rfl false true rfl ?_ ?_
  · intro g13;have g13:=Qf g13;refine OB ?_;refine KX ?_;refine Og (dj:=13) rfl rfl ?_;refine QR ?_;refine OB ?_;refine Ox (dj:=17) rfl rfl true false rfl ?_ ?_
    · intro g17;have g17:=of_decide_eq_true g17;refine OB ?_;refine QJ (j:=0) rfl aA ?_;refine Og (dj:=17) rfl rfl ?_;refine ZL ?_;refine Og (dj:=13) rfl rfl ?_;refine Kq ?_;refine OY ?_;refine Ol [0,22] ?_;refine Ok ?_ ?_
      · intro c22;refine dM ?_;rw[num_zero aB aB];exact⟨rfl,rfl⟩
      · intro c22;refine Ot [0] ?_;refine OB ?_;refine cM ?_;refine OB ?_;refine cM ?_;refine Oz ?_;refine O7 (X:=Nat) (fun p=>[(0,.str (wd l)),(6,.int .i64 (K6 (l.take p))),(7,.int .i64 (p:Int))]) (fun p h'=>p≤l.length∧(∀ q,q<p→ZX (l.getD q 0)=true)∧h=h') (fun p=>l.length - p) 0 ?_ ?_
        · exact⟨fJ _,fun q hq=>absurd hq (fH _),rfl⟩
        rintro p h2 ⟨hp,hb,rfl⟩;refine OB ?_;refine KX ?_;refine Qo ?_;refine Ol [0,6,7,26] ?_;refine Ok ?_ ?_
        · intro c26;have hlt:p<l.length:=by omega
          have hl4:l.length≤4:=by omega
          obtain⟨hn0,hn1⟩:=Y6 p aB hb;have hn2:(10:Int) ^ p≤10 ^ 4:=by
            have : 10 ^ p≤10 ^ 4:=fL aD aB
            exact_mod_cast this
          have hn3:(10:Int) ^ 4=10000:=by decide
          have hu:=(l.getD p 0).toNat_lt;refine Ot [0,6,7] ?_;refine b6 ?_;refine OB ?_;refine QJ (j:=p) rfl aA ?_;refine Z2 aB ak ?_;refine Oj rfl (is_c) ?_;rintro _ _ ⟨rfl,rfl⟩;refine Zm ?_;refine Ol [0,6,7,34] ?_;refine O1 ?_ ?_
          · intro c34;refine dM ?_;rw[Yx hlt (by unfold ZX; rw[decide_eq_false_iff_not]; omega)];exact⟨rfl,rfl⟩
          · intro c34;refine eB ?_;refine cE ?_;refine Ow [0,6,7] ?_;refine OB ?_;refine ce ?_;exact KI (p+1) aV ⟨hlt,fun q hq=>by
              rcases fI.1 hq with g|rfl
              · exact hb q g
              · unfold ZX; rw[decide_eq_true_iff]; omega,rfl⟩ aB
        · intro c26;refine bj ?_;refine Ow [6] ?_;refine dM ?_;have hpe:p=l.length:=by omega
          subst hpe;rw[num_all hb aB aB aB,fG];exact⟨rfl,rfl⟩
    · intro g17;have g17:=of_decide_eq_false g17;refine OB ?_;refine OY ?_;refine OY ?_;refine Ol [0,22] ?_;refine OW ?_;refine Ot [0] ?_;refine OB ?_;refine cM ?_;refine OB ?_;refine cM ?_;refine Oz ?_;refine O7 (X:=Nat) (fun p=>[(0,.str (wd l)),(6,.int .i64 (K6 (l.take p))),(7,.int .i64 (p:Int))]) (fun p h'=>p≤l.length∧(∀ q,q<p→ZX (l.getD q 0)=true)∧h=h') (fun p=>l.length - p) 0 ?_ ?_
      · exact⟨fJ _,fun q hq=>absurd hq (fH _),rfl⟩
      rintro p h2 ⟨hp,hb,rfl⟩;refine OB ?_;refine KX ?_;refine Qo ?_;refine Ol [0,6,7,26] ?_;refine Ok ?_ ?_
      · intro c26;have hlt:p<l.length:=by omega
        have hl4:l.length≤4:=by omega
        obtain⟨hn0,hn1⟩:=Y6 p aB hb;have hn2:(10:Int) ^ p≤10 ^ 4:=by
          have : 10 ^ p≤10 ^ 4:=fL aD aB
          exact_mod_cast this
        have hn3:(10:Int) ^ 4=10000:=by decide
        have hu:=(l.getD p 0).toNat_lt;refine Ot [0,6,7] ?_;refine b6 ?_;refine OB ?_;refine QJ (j:=p) rfl aA ?_;refine Z2 aB ak ?_;refine Oj rfl (is_c) ?_;rintro _ _ ⟨rfl,rfl⟩;refine Zm ?_;refine Ol [0,6,7,34] ?_;refine O1 ?_ ?_
        · intro c34;refine dM ?_;rw[Yx hlt (by unfold ZX; rw[decide_eq_false_iff_not]; omega)];exact⟨rfl,rfl⟩
        · intro c34;refine eB ?_;refine cE ?_;refine Ow [0,6,7] ?_;refine OB ?_;refine ce ?_;exact KI (p+1) aV ⟨hlt,fun q hq=>by
            rcases fI.1 hq with g|rfl
            · exact hb q g
            · unfold ZX; rw[decide_eq_true_iff]; omega,rfl⟩ aB
      · intro c26;refine bj ?_;refine Ow [6] ?_;refine dM ?_;have hpe:p=l.length:=by omega
        subst hpe;rw[num_all hb aB aB aB,fG];exact⟨rfl,rfl⟩
  · intro g13;have g13:=KU g13;refine OB ?_;refine Kj (dj:=17) rfl rfl ?_;refine Kj (dj:=17) rfl rfl ?_;refine Kj (dj:=17) rfl rfl ?_;refine OX (dj:=13) rfl rfl rfl ?_;refine Kq ?_;refine Ol [0,22] ?_;refine Km ?_;refine dM ?_;rw[num_len aB];exact⟨rfl,rfl⟩
theorem rname_c {h:AHeap} {l:Str} (hl:l.length≤1000000):ACalls Go.Proofs.Tryz.prog 143 [.str (wd l)] h (fun q h'=>q = .bool (XS l)∧h=h'):=by
 refine OR 19 [.tmp 2] Go.Proofs.Tryz.func143 rfl aD rfl rfl (fU rfl) ?_;show KA _ 19 _ _ [(0,.str (wd l))] _;refine Oa [0] ?_;refine dY ?_;refine O7 (X:=Nat) (fun p=>[(0,.str (wd l)),(3,.int .i64 (p:Int))]) (fun p h'=>p≤l.length∧(∀ q,q<p→lowC (l.getD q 0)=true)∧h=h') (fun p=>l.length - p) 0 ?_ ?_
 ·exact⟨fJ _,fun q hq=>absurd hq (fH _),rfl⟩
 rintro p h2 ⟨hp,hb,rfl⟩;refine Oa [0,3,7] ?_;refine Ok ?_ ?_
 ·intro c7;have hlt:p<l.length:=by omega
  refine Ot [0,3] ?_;refine dr ?_;refine QJ (j:=p) rfl aA ?_;refine Z2 aB ak ?_;refine Oj rfl (is_c) ?_;rintro _ _ ⟨rfl,rfl⟩;refine Oa [0,3,15] ?_;refine O1 ?_ ?_
  ·intro c15;refine bt ?_;rw[name_no hlt (by unfold lowC; rw[decide_eq_false_iff_not]; omega)];exact⟨rfl,rfl⟩
  ·intro c15;refine bx ?_;refine Ow [0,3] ?_;refine bz ?_;exact lpN (p+1) ⟨hlt,fun q hq=>by
    rcases fI.1 hq with g|rfl
    ·exact hb q g
    ·unfold lowC; rw[decide_eq_true_iff]; omega,rfl⟩ aB
 ·intro c7;refine bj ?_;refine Ow [0] ?_;refine Oc ?_;refine Oj rfl (is_c) ?_;rintro _ _ ⟨rfl,rfl⟩;refine bt ?_;have hpe:p=l.length:=by omega
  subst hpe;rw[name_is hb];exact⟨congrArg AV.bool (decide_eq_decide.2 aB),rfl⟩
end Go.Am
