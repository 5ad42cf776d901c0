/-
  Layer 14: the reference: lines are read.
  Conditions: none.
-/
import Derived.Test.YtgnogfjajnnaoaaGreatDoorCad
open List renaming getD_eq_getElem?_getD → fA, set_cons_zero → fE, set_cons_succ → fI, getElem?_eq_getElem → fO, take_succ_cons → fF, length_drop → fG, take_length → fJ, append_nil → fK, length_map → fL, nil_append → fM, getElem_cons_drop → fN, length_singleton → fP, mem_iff_getElem → fQ, getD_cons_zero → fR, getD_cons_succ → fS, length_append → fT, getElem?_map → fV, length_take → fX, take_zero → fZ
open Nat renaming zero_add → fU, lt_succ_iff_lt_or_eq → fY, le_of_ble_eq_true → fB, zero_le → fD, succ_lt_succ → fW
open Option renaming getD_some → fC
open UInt8 renaming toNat_inj → fH
set_option maxRecDepth 99999
set_option maxHeartbeats 4000000
namespace Go.Am
structure Ord where
  kind:Str
  names:List Str
  nums:List Int
def ord0:Ord:=⟨[],[],[]⟩
def XW : Str → List Str → List Str
  | c::f,w::l=>if c=119 then w::XW f l else XW f l
  | _,_=>[]
def Ym : Str → List Str → List Int
  | c::f,w::l=>if c=119 then Ym f l else K9 w::Ym f l
  | _,_=>[]
def ordW (W:List Str):Ord:=⟨W.getD 0 [],XW (OJ (W.getD 0 [])) (W.drop 1),Ym (OJ (W.getD 0 [])) (W.drop 1)⟩
def X3 (l:Str):Ord:=if KG l=0 then ordW (OH 32 l) else ord0
theorem UP:∀ (f:Str) (ws:List Str) (i:Nat),i<f.length→i<ws.length→XW (f.take (i+1)) ws=XW (f.take i) ws ++ (if f.getD i 0=119 then [ws.getD i []] else []):=by
 intro f
 induction f with
 | nil=>intro ws i h; cases h
 | cons c f ih=>
  intro ws i h1 h2
  cases ws with
  | nil=>cases h2
  | cons w ws=>
   cases i with
   | zero=>simp only[fF,fZ,XW,fR]; split <;> rfl
   | succ i=>
    have:=ih ws i (by simpa using h1) bK;simp only[fF,XW,fS] at this⊢;split <;> simp[this]
theorem WH:∀ (f:Str) (ws:List Str) (i:Nat),i<f.length→i<ws.length→Ym (f.take (i+1)) ws=Ym (f.take i) ws ++ (if f.getD i 0=119 then [] else [K9 (ws.getD i [])]):=by
 intro f
 induction f with
 | nil=>intro ws i h; cases h
 | cons c f ih=>
  intro ws i h1 h2
  cases ws with
  | nil=>cases h2
  | cons w ws=>
   cases i with
   | zero=>simp only[fF,fZ,Ym,fR]; split <;> rfl
   | succ i=>
    have:=ih ws i (by simpa using h1) bK;simp only[fF,Ym,fS] at this⊢;split <;> simp[this]
theorem YM {f:Str} {ws:List Str} {i:Nat} (h1:i<f.length) (h2:i<ws.length):KZ (f.drop i) (ws.drop i)=if Kq (f.getD i 0) (ws.getD i [])=0 then KZ (f.drop (i+1)) (ws.drop (i+1)) else Kq (f.getD i 0) (ws.getD i []):=by
 have e1:f.drop i=f.getD i 0::f.drop (i+1):=by rw[fA,fO h1,fC,fN]
 have e2:ws.drop i=ws.getD i []::ws.drop (i+1):=by rw[fA,fO h2,fC,fN]
 rw[e1,e2,KZ]
theorem UB:∀ (f:Str) (ws:List Str),Xx f ws=true↔∃ i,i<f.length∧i<ws.length∧Kz (f.getD i 0) (ws.getD i [])=true:=by
 intro f
 induction f with
 | nil=>intro ws; simp[Xx]
 | cons c f ih=>
  intro ws
  cases ws with
  | nil=>simp[Xx]
  | cons w ws=>
   rw[Xx,Bool.or_eq_true,ih];constructor;rintro(h|⟨i,h1,h2,h3⟩);exact⟨0,Nat.succ_pos _,Nat.succ_pos _,h⟩;exact⟨i+1,fW h1,fW h2,h3⟩
   ·rintro⟨i,h1,h2,h3⟩
    cases i with
    | zero=>exact .inl h3
    | succ i=>exact .inr ⟨i,by simpa using h1,by simpa using h2,h3⟩
theorem Wv (k:Str):OJ k = []∨OJ k = [119]∨OJ k = [119,119,119]∨OJ k = [119,110]∨OJ k = [112,119]∨OJ k = [112]:=by
 unfold OJ
 repeat' split
 all_goals simp
theorem form_len (k:Str):(OJ k).length≤3:=by
 rcases Wv k with h|h|h|h|h|h <;> rw[h] <;> decide
theorem U2 {k:Str} {ws:List Str} {i:Nat} (hl:ws.length=(OJ k).length) (hi:i<(OJ k).length) (hc:(OJ k).getD i 0≠119):Ym (OJ k) ws = [K9 (ws.getD i [])]:=by
 rcases Wv k with h|h|h|h|h|h <;> rw[h] at hl hi hc⊢<;> simp only[List.length_cons,List.length_nil] at hl hi
 omega;obtain rfl:i=0:=by omega
 exact absurd rfl hc;have:i=0∨i=1∨i=2:=by omega
 rcases this with rfl|rfl|rfl <;> exact absurd rfl hc
 ·have:i=0∨i=1:=by omega
  rcases this with rfl|rfl
  exact absurd rfl hc
  ·match ws,hl with
   | [a,b],_=>rfl
 ·have:i=0∨i=1:=by omega
  rcases this with rfl|rfl
  ·match ws,hl with
   | [a,b],_=>rfl
  exact absurd rfl hc
 ·obtain rfl:i=0:=by omega
  match ws,hl with
  | [a],_=>rfl
structure Rdg (W:List Str) (i:Nat) (ns:List Str) (ms:List Int):Prop where
  il:i≤(OJ (W.getD 0 [])).length
  nsE:ns=XW ((OJ (W.getD 0 [])).take i) (W.drop 1)
  msE:ms=Ym ((OJ (W.getD 0 [])).take i) (W.drop 1)
  er:KZ (OJ (W.getD 0 [])) (W.drop 1)=KZ ((OJ (W.getD 0 [])).drop i) ((W.drop 1).drop i)
  nl:ns.length≤i
  ml:ms.length≤i
theorem Rdg.init (W:List Str):Rdg W 0 [] []:=⟨fD _,by simp[XW],by simp[Ym],rfl,Nat.le_refl _,Nat.le_refl _⟩
theorem Q4 (W:List Str) (i:Nat):(W.drop 1).getD i []=W.getD (i+1) []:=by
 rw[fA,List.getElem?_drop,←fA,Nat.add_comm]
section
variable {W:List Str} {i:Nat} {ns:List Str} {ms:List Int} (r:Rdg W i ns ms) (hi:i<(OJ (W.getD 0 [])).length) (hl:W.length=(OJ (W.getD 0 [])).length+1)
include r hi hl
theorem Rdg.name (hc:(OJ (W.getD 0 [])).getD i 0=119) (hn:XU (W.getD (i+1) [])=true):Rdg W (i+1) (ns ++ [W.getD (i+1) []]) ms:=by
 have h2:i<(W.drop 1).length:=by rw[fG]; omega
 refine⟨hi,?_,?_,?_,by have:=r.nl; rw[fT,fP]; omega,by have:=r.ml; omega⟩;rw[UP _ _ _ hi h2,if_pos hc,←r.nsE,Q4];rw[WH _ _ _ hi h2,if_pos hc,fK]; exact r.msE;rw[r.er,YM hi h2,hc,Q4,Kq,if_pos rfl,if_pos hn,if_pos rfl]
theorem Rdg.num (hc:(OJ (W.getD 0 [])).getD i 0≠119) (hn:K6 (W.getD (i+1) []) 3=true):Rdg W (i+1) ns (ms ++ [K9 (W.getD (i+1) [])]):=by
 have h2:i<(W.drop 1).length:=by rw[fG]; omega
 refine⟨hi,?_,?_,?_,by have:=r.nl; omega,by have:=r.ml; rw[fT,fP]; omega⟩;rw[UP _ _ _ hi h2,if_neg hc,fK]; exact r.nsE;rw[WH _ _ _ hi h2,if_neg hc,←r.msE,Q4];rw[r.er,YM hi h2,Q4,Kq,if_neg hc,if_pos hn,if_pos rfl]
theorem Rdg.noName (hc:(OJ (W.getD 0 [])).getD i 0=119) (hn:XU (W.getD (i+1) [])=false):KZ (OJ (W.getD 0 [])) (W.drop 1)=10:=by
 have h2:i<(W.drop 1).length:=by rw[fG]; omega
 have hb:Kq ((OJ (W.getD 0 [])).getD i 0) ((W.drop 1).getD i [])=10:=by rw[hc,Q4,Kq,if_pos rfl,hn]; rfl
 rw[r.er,YM hi h2,hb]; exact if_neg aD
theorem Rdg.noNum (hc:(OJ (W.getD 0 [])).getD i 0≠119) (hn:K6 (W.getD (i+1) []) 3=false):KZ (OJ (W.getD 0 [])) (W.drop 1)=9:=by
 have h2:i<(W.drop 1).length:=by rw[fG]; omega
 have hb:Kq ((OJ (W.getD 0 [])).getD i 0) ((W.drop 1).getD i [])=9:=by rw[Q4,Kq,if_neg hc,hn]; rfl
 rw[r.er,YM hi h2,hb]; exact if_neg aD
end
theorem Rdg.done {W:List Str} {ns:List Str} {ms:List Int} {i:Nat} (r:Rdg W i ns ms) (hi:i=(OJ (W.getD 0 [])).length):ns=XW (OJ (W.getD 0 [])) (W.drop 1)∧ms=Ym (OJ (W.getD 0 [])) (W.drop 1)∧KZ (OJ (W.getD 0 [])) (W.drop 1)=0:=by
 subst hi;have h1:=r.nsE;have h2:=r.msE;have h3:=r.er;rw[fJ] at h1 h2;rw[List.drop_length] at h3;exact⟨h1,h2,h3.trans (by rw[KZ]; intro c f w l h; cases h)⟩
theorem W8 {c:UInt8} {w:Str} (h:(c.toNat=112∧K9 w=0)∨(c.toNat=110∧99<K9 w)):Kz c w=true:=by
 unfold Kz;rcases h with ⟨h1,h2⟩|⟨h1,h2⟩
 rw[show c=112 from fH.1 h1,decide_eq_true h2]; rfl;rw[show c=110 from fH.1 h1,decide_eq_true h2]; rfl
theorem Ws {c:UInt8} {w:Str} (h1:¬ (c.toNat=112∧K9 w=0)) (h2:¬ (c.toNat=110∧99<K9 w)):Kz c w=false:=by
 unfold Kz;rw[Bool.or_eq_false_iff,Bool.and_eq_false_iff,Bool.and_eq_false_iff,decide_eq_false_iff_not,decide_eq_false_iff_not,decide_eq_false_iff_not,decide_eq_false_iff_not];refine⟨?_,?_⟩;by_cases h:c=112;right; intro h3; exact h1 ⟨by rw[h]; rfl,h3⟩;exact .inl h;by_cases h:c=110;right; intro h3; exact h2 ⟨by rw[h]; rfl,h3⟩;exact .inl h
theorem rE_long {l:Str} (h : 40<l.length):KG l=19:=by unfold KG; exact if_pos h
theorem rE_bad {l:Str} (h1:¬ 40<l.length) (h:XZ l):KG l=9:=by unfold KG; dsimp only; rw[if_neg h1]; exact if_pos h
theorem rE_kind {l:Str} (h1:¬ 40<l.length) (h2:¬ XZ l) (h:OJ ((OH 32 l).getD 0 []) = []):KG l=8:=by have h2':¬ ([]∈OH 32 l∨(l.any fun c=>decide (c.toNat<32∨126<c.toNat))=true):=h2; unfold KG; dsimp only; rw[if_neg h1,if_neg h2',if_pos h]
theorem TN {l:Str} (h1:¬ 40<l.length) (h2:¬ XZ l) (h3:OJ ((OH 32 l).getD 0 [])≠[]) (h:(OH 32 l).length≠(OJ ((OH 32 l).getD 0 [])).length+1):KG l=5:=by have h2':¬ ([]∈OH 32 l∨(l.any fun c=>decide (c.toNat<32∨126<c.toNat))=true):=h2; unfold KG; dsimp only; rw[if_neg h1,if_neg h2',if_neg h3,if_pos h]
theorem YF {l:Str} (h1:¬ 40<l.length) (h2:¬ XZ l) (h3:OJ ((OH 32 l).getD 0 [])≠[]) (h:(OH 32 l).length=(OJ ((OH 32 l).getD 0 [])).length+1):KG l=if KZ (OJ ((OH 32 l).getD 0 [])) ((OH 32 l).drop 1)≠0 then KZ (OJ ((OH 32 l).getD 0 [])) ((OH 32 l).drop 1) else if Xx (OJ ((OH 32 l).getD 0 [])) ((OH 32 l).drop 1) then 1 else 0:=by have h2':¬ ([]∈OH 32 l∨(l.any fun c=>decide (c.toNat<32∨126<c.toNat))=true):=h2; unfold KG; dsimp only; rw[if_neg h1,if_neg h2',if_neg h3,if_neg (fun x=>x h)]
def RdR (l:Str) (h h':AHeap) (q:AV):Prop:=∃ vn vm,q = .tup [.agg [.str (wd (X3 l).kind),vn,vm],.int .i64 (KG l)]∧St h h' [⟨vn,1,wcs (X3 l).names,true⟩,⟨vm,1,ints (X3 l).nums,true⟩]
theorem Yo {l:Str} {h h':AHeap} {X:List Obj} {e:Int} (st:St h h' X) (hE:KG l=e) (he:e≠0):RdR l h h' (.tup [.agg [.str ⟨#[]⟩,.nils,.nils],.int .i64 e]):=by
 refine⟨.nils,.nils,by rw[hE,X3,if_neg (by rw[hE]; exact he)]; rfl,?_⟩;rw[X3,if_neg (by rw[hE]; exact he)];exact((St.drop (A:=X) (by rw[fK]; exact st)).nil 1).nil 1
theorem TO {h:AHeap} {l:Str} (hl:l.length≤1000000):ACalls Go.Proofs.Tryz.prog 110 [.str (wd l)] h (fun q h'=>RdR l h h' q):=by
 refine KA.fnH 120 [.cell 2 159,.tmp 3] Go.Proofs.Tryz.func110 rfl aD rfl rfl (fB rfl) ?_;have hS:=St.refl h;show KA _ 120 _ _ [(0,.str (wd l))] _;refine Ou ?_;refine Kb hS ?_;intro p2 h' hp2 hS;refine Oa [0,2] ?_;refine Oa [0,2,14] ?_;refine Ok ?_ ?_
 ·intro c14;refine cB ?_;refine OI hS rfl (i:=0) rfl hp2 aE aJ aJ aD ?_;intro h' hS;simp only[fE,fI,fU] at hS;refine dZ ?_;refine K8 ?_;refine Zs hS (i:=0) rfl hp2 aJ aR ?_;exact Yo hS (rE_long aB) aD
 ·intro c14;refine On [0,2] ?_;refine Oc ?_;refine Oj rfl (words_c hl) ?_;rintro _ h18 ⟨v19,rfl,hS18⟩;replace hS:St _ _ (_::_):=St.trans hS hS18;refine Oa [2,4,5] ?_;refine Oa [2,4,22] ?_;refine Ko ?_ ?_
  ·intro c22;have hnb:XZ l:=by simpa using c22
   refine cB ?_;refine OI hS rfl (i:=1) rfl hp2 aE aJ aJ aD ?_;intro h' hS;simp only[fE,fI,fU] at hS;refine dZ ?_;refine K8 ?_;refine Zs hS (i:=1) rfl hp2 aJ aR ?_;exact Yo hS (rE_bad aB hnb) aD
  ·intro c22;have hnb:¬ XZ l:=by simpa using c22
   have hws:Ux l=OH 32 l:=if_neg hnb;rw[hws] at hS;have hl0 : 0<(OH 32 l).length:=List.length_pos_iff.2 (RM _ _);have hll:=WR 32 l;refine On [2,4] ?_;refine Oc ?_;refine Oq (hS.rd 0 rfl) (j:=0) rfl aA ?_;intro p25 hp25;refine OY hp25 (hS.rd 0 rfl) aA ?_;refine Oj rfl (form14_c) ?_;rintro _ _ ⟨rfl,rfl⟩;refine Oa [2,4,6] ?_;refine Oa [2,4,6,29] ?_;refine Ok ?_ ?_
   ·intro c29;refine cB ?_;refine OI hS rfl (i:=1) rfl hp2 aE aJ aJ aD ?_;intro h' hS;simp only[fE,fI,fU] at hS;refine dZ ?_;refine K8 ?_;refine Zs hS (i:=1) rfl hp2 aJ aR ?_;exact Yo hS (rE_kind aB hnb c29) aD
   ·intro c29;have hfl:=form_len ((OH 32 l).getD 0 []);refine On [2,4,6] ?_;refine Oc ?_;refine O8 (hS.rd 0 rfl) ?_;refine Oa [2,4,6,36] ?_;refine O3 ?_ ?_
    ·intro c36;refine cB ?_;refine OI hS rfl (i:=1) rfl hp2 aE aJ aJ aD ?_;intro h' hS;simp only[fE,fI,fU] at hS;refine dZ ?_;refine K8 ?_;refine Zs hS (i:=1) rfl hp2 aJ aR ?_;exact Yo hS (TN aB hnb c29 aB) aD
    ·intro c36;refine On [2,4,6] ?_;refine Oc ?_;refine Oq (hS.rd 0 rfl) (j:=0) rfl aA ?_;intro p39 hp39;refine OY hp39 (hS.rd 0 rfl) aA ?_;refine Ke (zs:=[.str ⟨#[]⟩,.nils,.nils]) (cs:=[_,_,_]) aF aJ aF (.cons (off:=0) (s:=1) aF (AV.cells_one aG) rfl aD .nil) aJ ?_;refine Kb hS ?_;intro p7 h' hp7 hS;refine OI hS rfl (i:=0) rfl hp7 aE aJ aJ aD ?_;intro h' hS;simp only[fE,fI,fU] at hS;refine Om [2,4,6,7] ?_;refine cn ?_;refine Kc (X:=Nat × AV × AV) (fun x=>[(2,p2),(4,v19),(6,.str (wd (OJ ((OH 32 l).getD 0 [])))),(7,p7),(8,.int .i64 (x.1:Int))]) (fun x h'=>∃ ns ms,Rdg (OH 32 l) x.1 ns ms∧St h h' [⟨p7,0,[.str (wd ((OH 32 l).getD 0 [])),x.2.1,x.2.2],true⟩,⟨x.2.1,1,wcs ns,true⟩,⟨x.2.2,1,ints ms,true⟩,⟨v19,1,wcs (OH 32 l),true⟩,⟨p2,0,[.str ⟨#[]⟩,.nils,.nils],true⟩]) (fun x=>(OJ ((OH 32 l).getD 0 [])).length - x.1) (0,.nils,.nils) ?_ ?_;exact⟨[],[],Rdg.init _,St.perm (List.perm_middle (l₁:=[_,_])) ((hS.nil 1).nil 1)⟩;rintro⟨i,vn,vm⟩ h2 ⟨ns,ms,hr,hS⟩;dsimp only at hr hS⊢;have hil:=hr.il;have hnl:=hr.nl;have hml:=hr.ml;refine Oa [2,4,6,7,8,45] ?_;refine Ok ?_ ?_
     ·intro c45;have hlt:i<(OJ ((OH 32 l).getD 0 [])).length:=by omega
      have hi1:i+1<(OH 32 l).length:=by omega
      have hsm:=Ut 32 l ((OH 32 l).getD (i+1) []) (getD_mem hi1);refine On [2,4,6,7,8] ?_;refine dw ?_;refine Q2 (j:=i) rfl aA ?_;refine Oa [2,4,6,7,8,51] ?_;refine Ok ?_ ?_
      ·intro c51;refine Oc ?_;refine Oq (hS.rd 3 rfl) (j:=_) rfl aA ?_;intro p55 hp55;refine OY hp55 (hS.rd 3 rfl) aA ?_;refine Oj rfl (rname_c (Nat.le_trans hsm aB)) ?_;rintro _ _ ⟨rfl,rfl⟩;refine Oa [2,4,6,7,8,58] ?_;refine Ko ?_ ?_
       ·intro c58;refine dz ?_;intro h' hS;simp only[fE,fI,fU] at hS;refine dZ ?_;refine K8 ?_;refine K8 ?_;refine cW ?_;have hc:(OJ ((OH 32 l).getD 0 [])).getD i 0=119:=fH.1 (by show _=119; omega);have hlW:(OH 32 l).length=(OJ ((OH 32 l).getD 0 [])).length+1:=by omega
        exact Yo hS ((YF aB hnb c29 aB).trans (by rw[hr.noName hlt hlW hc (by simpa using c58)]; exact if_pos aD)) aD
       ·intro c58;refine On [2,4,6,7,8] ?_;refine Ow ?_;refine OX [8] mixed rfl aF ?_;refine Ob hp7 ?_;intro p60 hp60;refine Oe hp60 (hS.rd 0 rfl) rfl ?_;refine Oc ?_;refine Oq (hS.rd 3 rfl) (j:=_) rfl aA ?_;intro p65 hp65;refine OY hp65 (hS.rd 3 rfl) aA ?_;refine cH ?_;intro v67 h' hS;refine K3 hS (fun _=>rfl) (i:=1) rfl aA ?_;intro r68 h' hr68 hS;refine Ob hp7 ?_;intro p69 hp69;refine Kf hS rfl (i:=0) rfl hp69 aG aT ?_;intro h' hS;simp only[fE,fI,fU] at hS;refine Om [2,4,6,7,8] ?_;refine dx ?_;refine bw ?_;have hc:(OJ ((OH 32 l).getD 0 [])).getD i 0=119:=fH.1 (by show _=119; omega);have hlW:(OH 32 l).length=(OJ ((OH 32 l).getD 0 [])).length+1:=by omega
        exact lpN (i+1,r68,vm) ⟨_,_,hr.name hlt hlW hc (by simpa using c58),hS⟩ aL
      ·intro c51;refine On [2,4,6,7,8] ?_;refine Oc ?_;refine Oq (hS.rd 3 rfl) (j:=_) rfl aA ?_;intro p74 hp74;refine OY hp74 (hS.rd 3 rfl) aA ?_;refine Oj rfl (digits_c (m:=3) aD (Nat.le_trans hsm aB)) ?_;rintro _ _ ⟨rfl,rfl⟩;refine Oa [2,4,6,7,8,9,10] ?_;refine Oa [2,4,6,7,8,9,80] ?_;refine Ko ?_ ?_
       ·intro c80;refine dz ?_;intro h' hS;simp only[fE,fI,fU] at hS;refine dZ ?_;refine K8 ?_;refine cW ?_;have hc:(OJ ((OH 32 l).getD 0 [])).getD i 0≠119:=fun e=>c51 (by rw[e]; rfl)
        have hlW:(OH 32 l).length=(OJ ((OH 32 l).getD 0 [])).length+1:=by omega
        exact Yo hS ((YF aB hnb c29 aB).trans (by rw[hr.noNum hlt hlW hc (by simpa using c80)]; exact if_pos aD)) aD
       ·intro c80;refine On [2,4,6,7,8,9] ?_;refine Kr rfl ?_;refine Ob hp7 ?_;intro p82 hp82;refine Oe hp82 (hS.rd 0 rfl) rfl ?_;refine Oh ?_;refine cH ?_;intro v85 h' hS;refine Za hS (fun _=>rfl) (i:=2) rfl aA ?_;intro r86 h' hr86 hS;refine Ob hp7 ?_;intro p87 hp87;refine Kf hS rfl (i:=0) rfl hp87 aG aT ?_;intro h' hS;simp only[fE,fI,fU] at hS;refine cF ?_;refine Oo [2,4,6,7,8] ?_;refine bw ?_;have hc:(OJ ((OH 32 l).getD 0 [])).getD i 0≠119:=fun e=>c51 (by rw[e]; rfl)
        have hlW:(OH 32 l).length=(OJ ((OH 32 l).getD 0 [])).length+1:=by omega
        have hn:K6 ((OH 32 l).getD (i+1) []) 3=true:=by simpa using c80
        rw[if_pos hn] at hS;exact lpN (i+1,vn,r86) ⟨_,_,hr.num hlt hlW hc hn,hS⟩ aL
     ·intro c45;obtain⟨hns,hms,hwe⟩:=hr.done aB;refine bh ?_;refine Oo [2,6,7] ?_;refine cn ?_;refine Kc (X:=Nat) (fun i=>[(2,p2),(6,.str (wd (OJ ((OH 32 l).getD 0 [])))),(7,p7),(11,.int .i64 (i:Int))]) (fun i h'=>i≤(OJ ((OH 32 l).getD 0 [])).length∧(∀ j,j<i→Kz ((OJ ((OH 32 l).getD 0 [])).getD j 0) ((OH 32 l).getD (j+1) [])=false)∧St h h' [⟨p7,0,[.str (wd ((OH 32 l).getD 0 [])),vn,vm],true⟩,⟨vn,1,wcs ns,true⟩,⟨vm,1,ints ms,true⟩,⟨v19,1,wcs (OH 32 l),true⟩,⟨p2,0,[.str ⟨#[]⟩,.nils,.nils],true⟩]) (fun i=>(OJ ((OH 32 l).getD 0 [])).length - i) 0 ?_ ?_;exact⟨fD _,fun j hj=>by omega,hS⟩;rintro j h2 ⟨hj,hfa,hS⟩;refine Oa [2,6,7,11,91] ?_;refine Ok ?_ ?_
      ·intro c91;have hlt:j<(OJ ((OH 32 l).getD 0 [])).length:=by omega
       refine On [2,6,7,11] ?_;refine dw ?_;refine Q2 (j:=j) rfl aA ?_;refine Oc ?_;refine Oy (dj:=98) rfl rfl true false rfl ?_ ?_
       ·intro g98;have g98:=of_decide_eq_true g98;have hm1:ms = [K9 ((OH 32 l).getD (j+1) [])]:=by rw[hms,U2 bQ hlt (by intro e; rw[e] at g98; exact absurd g98 aD),Q4]
        have hm2:ms.length=1:=by rw[hm1]; rfl
        have hv:ms.getD 0 0=K9 ((OH 32 l).getD (j+1) []):=by rw[hm1]; rfl
        refine Ob hp7 ?_;intro p99 hp99;refine Og (dj:=98) rfl rfl ?_;refine Oe hp99 (hS.rd 0 rfl) rfl ?_;refine Og (dj:=98) rfl rfl ?_;refine Oq (hS.rd 2 rfl) (j:=0) rfl aA ?_;intro p101 hp101;refine Og (dj:=98) rfl rfl ?_;refine O6 hp101 (hS.rd 2 rfl) aA ?_;refine Oc ?_;refine Oy (dj:=105) rfl rfl false true rfl ?_ ?_
        ·intro g105;have g105:=of_decide_eq_false g105;refine Oc ?_;refine Q2 (j:=j) rfl aA ?_;refine Oc ?_;refine Oy (dj:=110) rfl rfl true false rfl ?_ ?_
         ·intro g110;have g110:=of_decide_eq_true g110;have hm1:ms = [K9 ((OH 32 l).getD (j+1) [])]:=by rw[hms,U2 bQ hlt (by intro e; rw[e] at g110; exact absurd g110 aD),Q4]
          have hm2:ms.length=1:=by rw[hm1]; rfl
          have hv:ms.getD 0 0=K9 ((OH 32 l).getD (j+1) []):=by rw[hm1]; rfl
          refine Ob hp7 ?_;intro p111 hp111;refine Og (dj:=110) rfl rfl ?_;refine Oe hp111 (hS.rd 0 rfl) rfl ?_;refine Og (dj:=110) rfl rfl ?_;refine Oq (hS.rd 2 rfl) (j:=0) rfl aA ?_;intro p113 hp113;refine Og (dj:=110) rfl rfl ?_;refine O6 hp113 (hS.rd 2 rfl) aA ?_;refine ct ?_;refine Ok ?_ ?_
          ·intro c117;refine dz ?_;intro h' hS;simp only[fE,fI,fU] at hS;refine dZ ?_;refine cW ?_;exact Yo hS ((YF aB hnb c29 aB).trans am) aD
          intro c117;refine dB ?_;exact lpN (j+1) ⟨by omega,fun q hq=>by
           rcases fY.1 hq with g|rfl
           exact hfa q g;exact Ws aB aB,hS⟩ aB
         intro g110;have g110:=of_decide_eq_false g110;refine ct ?_;refine OP ?_;refine dB ?_;exact lpN (j+1) ⟨by omega,fun q hq=>by
          rcases fY.1 hq with g|rfl
          exact hfa q g;exact Ws aB aB,hS⟩ aB
        ·intro g105;have g105:=of_decide_eq_true g105;refine Oc ?_;refine Kg (dj:=110) rfl rfl ?_;refine Kg (dj:=110) rfl rfl ?_;refine Kg (dj:=110) rfl rfl ?_;refine Kg (dj:=110) rfl rfl ?_;refine Kg (dj:=110) rfl rfl ?_;refine ct ?_;refine Kw ?_;refine dz ?_;intro h' hS;simp only[fE,fI,fU] at hS;refine dZ ?_;refine cW ?_;exact Yo hS ((YF aB hnb c29 aB).trans am) aD
       ·intro g98;have g98:=of_decide_eq_false g98;refine Oc ?_;refine Q2 (j:=j) rfl aA ?_;refine Oc ?_;refine Oy (dj:=110) rfl rfl true false rfl ?_ ?_
        ·intro g110;have g110:=of_decide_eq_true g110;have hm1:ms = [K9 ((OH 32 l).getD (j+1) [])]:=by rw[hms,U2 bQ hlt (by intro e; rw[e] at g110; exact absurd g110 aD),Q4]
         have hm2:ms.length=1:=by rw[hm1]; rfl
         have hv:ms.getD 0 0=K9 ((OH 32 l).getD (j+1) []):=by rw[hm1]; rfl
         refine Ob hp7 ?_;intro p111 hp111;refine Og (dj:=110) rfl rfl ?_;refine Oe hp111 (hS.rd 0 rfl) rfl ?_;refine Og (dj:=110) rfl rfl ?_;refine Oq (hS.rd 2 rfl) (j:=0) rfl aA ?_;intro p113 hp113;refine Og (dj:=110) rfl rfl ?_;refine O6 hp113 (hS.rd 2 rfl) aA ?_;refine ct ?_;refine Ok ?_ ?_
         ·intro c117;refine dz ?_;intro h' hS;simp only[fE,fI,fU] at hS;refine dZ ?_;refine cW ?_;exact Yo hS ((YF aB hnb c29 aB).trans am) aD
         intro c117;refine dB ?_;exact lpN (j+1) ⟨by omega,fun q hq=>by
          rcases fY.1 hq with g|rfl
          exact hfa q g;exact Ws aB aB,hS⟩ aB
        intro g110;have g110:=of_decide_eq_false g110;refine ct ?_;refine OP ?_;refine dB ?_;exact lpN (j+1) ⟨by omega,fun q hq=>by
         rcases fY.1 hq with g|rfl
         exact hfa q g;exact Ws aB aB,hS⟩ aB
      ·intro c91;refine bh ?_;refine Oo [2,7] ?_;refine d4 ?_;refine OI hS rfl (i:=4) rfl hp2 (by simp only[List.all_cons,List.all_nil,Bool.and_true]; rw[show vn.one=true from St.one hS (k:=1) rfl,show vm.one=true from St.one hS (k:=2) rfl]; rfl) aJ aJ aD ?_;intro h' hS;simp only[fE,fI,fU] at hS;refine dZ ?_;refine Zs hS (i:=4) rfl hp2 aJ aR ?_;have hfe:Xx (OJ ((OH 32 l).getD 0 [])) ((OH 32 l).drop 1)=false:=by
        cases hq:Xx (OJ ((OH 32 l).getD 0 [])) ((OH 32 l).drop 1) with
        | false=>rfl
        | true=>
         obtain⟨q,h1,h2,h3⟩:=(UB _ _).1 hq;rw[Q4,hfa q aB] at h3;cases h3
       have hE:KG l=0:=(YF aB hnb c29 aB).trans (by rw[hwe,if_neg aR,hfe]; rfl);refine⟨vn,vm,by rw[hE,X3,if_pos hE]; rfl,?_⟩;rw[X3,if_pos hE,ordW];dsimp only;rw[←hns,←hms];exact St.drop (A:=[_,_]) (St.perm (List.perm_append_comm (l₁:=[_,_]) (l₂:=[_,_])) (St.drop (A:=[_]) hS))
end Go.Am
namespace Go.Am
structure RW where
  name:Str
  fr:Int
  to:Int
  told:Int
  top:Int
  paid:Int
instance:Inhabited RW:=⟨⟨[],0,0,0,0,0⟩⟩
structure RP where
  number:Int
  way:Int
  state:Int
instance:Inhabited RP:=⟨⟨0,0,0⟩⟩
structure RO where
  rooms:List Str
  ways:List RW
  packs:List RP
  claims:List Int
def ro0:RO:=⟨[],[],[],[]⟩
def rwc (w:RW):List AV:=[.str (wd w.name),.int .i64 w.fr,.int .i64 w.to,.int .i64 w.told,.int .i64 w.top,.int .i64 w.paid]
def rpc (p:RP):List AV:=[.int .i64 p.number,.int .i64 p.way,.int .i64 p.state]
theorem KR (w:RW):(rwc w).length=6:=rfl
theorem KN (p:RP):(rpc p).length=3:=rfl
def RO.room (s:RO) (k:Str):Int:=ixE s.rooms k
def RO.names (s:RO):List Str:=s.ways.map (·.name)
def RO.find (s:RO) (k:Str):Int:=ixE s.names k
def ZQ (n:Int) (p:RP):Bool:=decide (p.number=n) && decide (0<p.state)
def RO.held (s:RO) (n:Int):Int:=match s.packs.findIdx? (ZQ n) with
  | some i=>(i:Int)
  | none=>-1
def QB (i:Int) (p:RP):Bool:=decide (p.way=i) && decide (0<p.state)
def RO.count (s:RO) (i:Int):Int:=(s.packs.countP (QB i):Nat)
def RO.lo (s:RO) (i:Nat):Int:=if 0≤(s.ways.getD i default).paid then (s.ways.getD i default).paid else max (s.ways.getD i default).told (s.count i)
def RO.hi (s:RO) (i:Nat):Int:=if 0≤(s.ways.getD i default).paid then (s.ways.getD i default).paid else if 0≤(s.ways.getD i default).top then (s.ways.getD i default).top else 99
def RO.w (s:RO) (i:Nat):W:=⟨(s.ways.getD i default).fr,(s.ways.getD i default).to,s.lo i,s.hi i⟩
def RO.ws (s:RO):List W:=(List.range s.ways.length).map s.w
def RO.rm (s:RO):Int:=s.rooms.length
theorem RO.ws_len (s:RO):s.ws.length=s.ways.length:=by rw[RO.ws,fL,List.length_range]
theorem RO.ws_next (s:RO) {i:Nat} (h:i<s.ways.length):flr wc (s.ws.take i) ++ wc (s.w i)=flr wc (s.ws.take (i+1)):=by
 rw[←Z0 (d:=default) (show i<s.ws.length by rw[s.ws_len]; exact h)];have:s.ws.getD i default=s.w i:=by
  rw[RO.ws,fA,fV,List.getElem?_range h]; rfl
 rw[this]; simp[flr]
theorem VO {s:RO} {i:Nat} (h:i<s.ways.length):s.names.getD i []=(s.ways.getD i default).name:=by
 rw[RO.names,fA,fV,fA,fO h]; rfl
theorem ixE_at {l:List Str} {x:Str} {i:Nat} (hi:i<l.length) (h:l.getD i []=x) (hno:∀ j,j<i→l.getD j []≠x):ixE l x=i:=by
 rw[fA,fO hi,fC] at h;have h2:=Rb hi h.symm (fun j hj e=>by
  have:=hno j hj;rw[fA,fO aB,fC] at this;exact this e.symm)
 rw[ixE,if_pos (h ▸ List.getElem_mem hi),h2]
theorem ixE_no {l:List Str} {x:Str} (hno:∀ j,j<l.length→l.getD j []≠x):ixE l x = -1:=by
 rw[ixE,if_neg];intro hm;obtain⟨j,hj,he⟩:=fQ.1 hm;refine hno j hj ?_;rw[fA,fO hj,fC,he]
theorem held_at {s:RO} {n:Int} {i:Nat} (hi:i<s.packs.length) (h:ZQ n (s.packs.getD i default)=true) (hno:∀ j,j<i→ZQ n (s.packs.getD j default)=false):s.held n=i:=by
 have:s.packs.findIdx? (ZQ n)=some i:=by
  rw[List.findIdx?_eq_some_iff_getElem];refine⟨hi,?_,fun j hj=>?_⟩;rw[fA,fO hi] at h; exact h;have h2:=hno j hj;rw[fA,fO aB,fC] at h2;rw[h2]; decide
 rw[RO.held,this]
theorem held_no {s:RO} {n:Int} (hno:∀ j,j<s.packs.length→ZQ n (s.packs.getD j default)=false):s.held n = -1:=by
 have:s.packs.findIdx? (ZQ n)=none:=by
  rw[List.findIdx?_eq_none_iff];intro p hp;obtain⟨j,hj,rfl⟩:=fQ.1 hp;have h2:=hno j hj;rwa [fA,fO hj,fC] at h2
 rw[RO.held,this]
theorem Vu {l:List RP} {f:RP→Bool} {k:Nat} (h:k<l.length):(l.take (k+1)).countP f=(l.take k).countP f+if f (l.getD k default)=true then 1 else 0:=by
 rw[←Z0 (d:=default) h,List.countP_append,List.countP_singleton]
structure RRo (h:AHeap) (v0 v1 v2 v3:AV) (s:RO):Prop where
  rooms:WRow h v0 s.rooms
  ways:Rd h v1 6 (flr rwc s.ways)
  packs:Rd h v2 3 (flr rpc s.packs)
  claims:Row h v3 s.claims
  rl:s.rooms.length≤1000
  wl:s.ways.length≤1000
  pl:s.packs.length≤1000
  cl:s.claims.length≤1000
theorem RRo.ext {h h':AHeap} {v0 v1 v2 v3:AV} {s:RO} (r:RRo h v0 v1 v2 v3 s) (k:Keeps h h'):RRo h' v0 v1 v2 v3 s:=⟨r.rooms.ext k,r.ways.ext k,r.packs.ext k,r.claims.ext k,r.rl,r.wl,r.pl,r.cl⟩
theorem VH {h:AHeap} {v0 v1 v2 v3:AV} {s:RO} (r:RRo h v0 v1 v2 v3 s) {k:Str}:ACalls Go.Proofs.Tryz.prog 185 [.agg [v0,v1,v2,v3],.str (wd k)] h (fun q h'=>q = .int .i64 (s.room k)∧Keeps h h'):=by
 refine OV 21 [.tmp 4] Go.Proofs.Tryz.func185 rfl aD rfl rfl (fB rfl) ?_;have hS:=St.refl h;have h0:v0.one=true:=Rd.one r.rooms;have h1:v1.one=true:=r.ways.one;have h2:v2.one=true:=r.packs.one;have h3:v3.one=true:=Rd.one r.claims;have hrl:=r.rl;have hwl:=r.wl;have hpl:=r.pl;have hcl:=r.cl;show KA _ 21 _ _ [(0,.agg [v0,v1,v2,v3]),(1,.str (wd k))] _;refine dX ?_;intro p2 h' hp2 hS;refine Oa [1,2] ?_;refine cn ?_;refine Kc (X:=Nat) (fun i=>[(1,.str (wd k)),(2,p2),(5,.int .i64 (i:Int))]) (fun i h'=>i≤s.rooms.length∧(∀ j,j<i→s.rooms.getD j []≠k)∧St h h' [⟨p2,0,[v0,v1,v2,v3],true⟩]) (fun i=>s.rooms.length - i) 0 ?_ ?_;exact⟨fD _,fun j hj=>by omega,hS⟩;rintro i h5 ⟨hi,hno,hS⟩;refine dP ?_;intro p7 hp7;refine Oe hp7 (hS.rd 0 rfl) rfl ?_;refine O8 (r.ext hS.keeps).rooms ?_;refine Oa [1,2,5,10] ?_;refine Ok ?_ ?_
 ·intro c10;have hlt:i<s.rooms.length:=by omega
  refine On [1,2,5] ?_;refine dO ?_;refine cU ?_;intro p13 hp13;refine d8 ?_;refine Oh ?_;refine Oq (r.ext hS.keeps).rooms (j:=i) rfl aA ?_;intro p16 hp16;refine OY hp16 (r.ext hS.keeps).rooms aA ?_;refine Oa [1,2,5,19] ?_;refine Ok ?_ ?_;intro c19;refine bv ?_;exact⟨congrArg (AV.int _) (ixE_at hlt c19 hno).symm,hS.keeps⟩;intro c19;refine bu ?_;refine Oo [1,2,5] ?_;refine bw ?_;exact lpN (i+1) ⟨by omega,fun j hj=>by
   rcases fY.1 hj with g|rfl
   exact hno j g;exact c19,hS⟩ aB
 intro c10;refine cE ?_;exact⟨congrArg (AV.int _) (ixE_no fun j hj=>hno j aB).symm,hS.keeps⟩
theorem Xa {h:AHeap} {v0 v1 v2 v3:AV} {s:RO} (r:RRo h v0 v1 v2 v3 s) {k:Str}:ACalls Go.Proofs.Tryz.prog 150 [.agg [v0,v1,v2,v3],.str (wd k)] h (fun q h'=>q = .int .i64 (s.find k)∧Keeps h h'):=by
 refine OV 22 [.tmp 4] Go.Proofs.Tryz.func150 rfl aD rfl rfl (fB rfl) ?_;have hS:=St.refl h;have h0:v0.one=true:=Rd.one r.rooms;have h1:v1.one=true:=r.ways.one;have h2:v2.one=true:=r.packs.one;have h3:v3.one=true:=Rd.one r.claims;have hrl:=r.rl;have hwl:=r.wl;have hpl:=r.pl;have hcl:=r.cl;show KA _ 22 _ _ [(0,.agg [v0,v1,v2,v3]),(1,.str (wd k))] _;refine dX ?_;intro p2 h' hp2 hS;refine Oa [1,2] ?_;refine cn ?_;refine Kc (X:=Nat) (fun i=>[(1,.str (wd k)),(2,p2),(5,.int .i64 (i:Int))]) (fun i h'=>i≤s.ways.length∧(∀ j,j<i→s.names.getD j []≠k)∧St h h' [⟨p2,0,[v0,v1,v2,v3],true⟩]) (fun i=>s.ways.length - i) 0 ?_ ?_;exact⟨fD _,fun j hj=>by omega,hS⟩;rintro i h5 ⟨hi,hno,hS⟩;refine dP ?_;intro p7 hp7;refine Oe hp7 (hS.rd 0 rfl) rfl ?_;refine Qb KR (r.ext hS.keeps).ways ?_;refine Oa [1,2,5,10] ?_;refine Ok ?_ ?_
 ·intro c10;have hlt:i<s.ways.length:=by omega
  refine On [1,2,5] ?_;refine dO ?_;refine cU ?_;intro p13 hp13;refine d8 ?_;refine Oh ?_;refine OZ KR (r.ext hS.keeps).ways (j:=i) rfl aA ?_;intro p16 hp16;refine Ob hp16 ?_;intro p17 hp17;refine KK KR aD hp17 (r.ext hS.keeps).ways aA rfl ?_;refine Oa [1,2,5,20] ?_;refine Ok ?_ ?_;intro c20;refine bv ?_;have hnl:s.names.length=s.ways.length:=fL _;exact⟨congrArg (AV.int _) (ixE_at aB (by rw[VO hlt]; exact c20) hno).symm,hS.keeps⟩;intro c20;refine bu ?_;refine Oo [1,2,5] ?_;refine bw ?_;exact lpN (i+1) ⟨by omega,fun j hj=>by
   rcases fY.1 hj with g|rfl
   exact hno j g;rw[VO hlt]; exact c20,hS⟩ aB
 intro c10;refine cE ?_;have hnl:s.names.length=s.ways.length:=fL _;exact⟨congrArg (AV.int _) (ixE_no fun j hj=>hno j aB).symm,hS.keeps⟩
theorem Jf {h:AHeap} {v0 v1 v2 v3:AV} {s:RO} (r:RRo h v0 v1 v2 v3 s) {n:Int}:ACalls Go.Proofs.Tryz.prog 120 [.agg [v0,v1,v2,v3],.int .i64 n] h (fun q h'=>q = .int .i64 (s.held n)∧Keeps h h'):=by
 refine OV 31 [.tmp 4] Go.Proofs.Tryz.func120 rfl aD rfl rfl (fB rfl) ?_;have hS:=St.refl h;have h0:v0.one=true:=Rd.one r.rooms;have h1:v1.one=true:=r.ways.one;have h2:v2.one=true:=r.packs.one;have h3:v3.one=true:=Rd.one r.claims;have hrl:=r.rl;have hwl:=r.wl;have hpl:=r.pl;have hcl:=r.cl;show KA _ 31 _ _ [(0,.agg [v0,v1,v2,v3]),(1,.int .i64 n)] _;refine dX ?_;intro p2 h' hp2 hS;refine Oa [1,2] ?_;refine cn ?_;refine Kc (X:=Nat) (fun i=>[(1,.int .i64 n),(2,p2),(5,.int .i64 (i:Int))]) (fun i h'=>i≤s.packs.length∧(∀ j,j<i→ZQ n (s.packs.getD j default)=false)∧St h h' [⟨p2,0,[v0,v1,v2,v3],true⟩]) (fun i=>s.packs.length - i) 0 ?_ ?_;exact⟨fD _,fun j hj=>by omega,hS⟩;rintro i h5 ⟨hi,hno,hS⟩;refine dP ?_;intro p7 hp7;refine Oe hp7 (hS.rd 0 rfl) rfl ?_;refine Qb KN (r.ext hS.keeps).packs ?_;refine Oa [1,2,5,10] ?_;refine Ok ?_ ?_
 ·intro c10;have hlt:i<s.packs.length:=by omega
  refine On [1,2,5] ?_;refine dO ?_;refine cU ?_;intro p13 hp13;refine d8 ?_;refine Oh ?_;refine dr ?_;intro p16 hp16;refine Ob hp16 ?_;intro p17 hp17;refine KK KN aD hp17 (r.ext hS.keeps).packs aA rfl ?_;refine Oc ?_;refine Oy (dj:=21) rfl rfl true false rfl ?_ ?_
  ·intro g21;have g21:=of_decide_eq_true g21;refine cU ?_;intro p22 hp22;refine Og (dj:=21) rfl rfl ?_;refine Oe hp22 (hS.rd 0 rfl) rfl ?_;refine Oc ?_;refine dr ?_;intro p25 hp25;refine Og (dj:=21) rfl rfl ?_;refine Ob hp25 ?_;intro p26 hp26;refine Og (dj:=21) rfl rfl ?_;refine KK KN aD hp26 (r.ext hS.keeps).packs aA rfl ?_;refine Oa [1,2,5,22,23,24,25,26,27,28,29] ?_;refine Ok ?_ ?_;intro c29;refine bv ?_;exact⟨congrArg (AV.int _) (held_at hlt (by unfold ZQ; rw[decide_eq_true g21,decide_eq_true c29]; rfl) hno).symm,hS.keeps⟩;intro c29;refine bu ?_;refine Oo [1,2,5,22,23,24,25,26,27,28] ?_;refine bw ?_;exact lpN (i+1) ⟨by omega,fun j hj=>by
    rcases fY.1 hj with g|rfl
    exact hno j g;unfold ZQ; rw[decide_eq_true g21,decide_eq_false c29]; rfl,hS⟩ aB
  intro g21;have g21:=of_decide_eq_false g21;refine Oa [1,2,5,22,23,24,25,26,27,28,29] ?_;refine OP ?_;refine bu ?_;refine Oo [1,2,5,22,23,24,25,26,27,28] ?_;refine bw ?_;exact lpN (i+1) ⟨by omega,fun j hj=>by
   rcases fY.1 hj with g|rfl
   exact hno j g;unfold ZQ; rw[decide_eq_false g21]; rfl,hS⟩ aB
 intro c10;refine cE ?_;exact⟨congrArg (AV.int _) (held_no fun j hj=>hno j aB).symm,hS.keeps⟩
theorem Ub {h:AHeap} {v0 v1 v2 v3:AV} {s:RO} (r:RRo h v0 v1 v2 v3 s) {k:Int}:ACalls Go.Proofs.Tryz.prog 151 [.agg [v0,v1,v2,v3],.int .i64 k] h (fun q h'=>q = .int .i64 (s.count k)∧Keeps h h'):=by
 refine OV 34 [.tmp 4] Go.Proofs.Tryz.func151 rfl aD rfl rfl (fB rfl) ?_;have hS:=St.refl h;have h0:v0.one=true:=Rd.one r.rooms;have h1:v1.one=true:=r.ways.one;have h2:v2.one=true:=r.packs.one;have h3:v3.one=true:=Rd.one r.claims;have hrl:=r.rl;have hwl:=r.wl;have hpl:=r.pl;have hcl:=r.cl;show KA _ 34 _ _ [(0,.agg [v0,v1,v2,v3]),(1,.int .i64 k)] _;refine dX ?_;intro p2 h' hp2 hS;refine Oa [1,2] ?_;refine bj ?_;refine cn ?_;refine Kc (X:=Nat) (fun i=>[(1,.int .i64 k),(2,p2),(5,.int .i64 (((s.packs.take i).countP (QB k):Nat):Int)),(6,.int .i64 (i:Int))]) (fun i h'=>i≤s.packs.length∧St h h' [⟨p2,0,[v0,v1,v2,v3],true⟩]) (fun i=>s.packs.length - i) 0 ?_ ?_;exact⟨fD _,hS⟩;rintro i h5 ⟨hi,hS⟩;refine dP ?_;intro p8 hp8;refine Oe hp8 (hS.rd 0 rfl) rfl ?_;refine Qb KN (r.ext hS.keeps).packs ?_;refine Oa [1,2,5,6,11] ?_;refine Ok ?_ ?_
 ·intro c11;have hlt:i<s.packs.length:=by omega
  have hcl:=List.countP_le_length (p:=QB k) (l:=s.packs.take i);have hcl2:(s.packs.take i).length≤i:=by rw[fX]; omega
  refine On [1,2,5,6] ?_;refine dO ?_;refine cU ?_;intro p14 hp14;refine Oe hp14 (hS.rd 0 rfl) rfl ?_;refine Oh ?_;refine dr ?_;intro p17 hp17;refine Ob hp17 ?_;intro p18 hp18;refine KK KN aD hp18 (r.ext hS.keeps).packs aA rfl ?_;refine Oc ?_;refine Oy (dj:=22) rfl rfl true false rfl ?_ ?_
  ·intro g22;have g22:=of_decide_eq_true g22;refine cU ?_;intro p23 hp23;refine Og (dj:=22) rfl rfl ?_;refine Oe hp23 (hS.rd 0 rfl) rfl ?_;refine Oc ?_;refine dr ?_;intro p26 hp26;refine Og (dj:=22) rfl rfl ?_;refine Ob hp26 ?_;intro p27 hp27;refine Og (dj:=22) rfl rfl ?_;refine KK KN aD hp27 (r.ext hS.keeps).packs aA rfl ?_;refine Oa [1,2,5,6,23,24,25,26,27,28,29,30] ?_;refine Ok ?_ ?_;intro c30;refine cj ?_;refine Od ?_;refine Oo [1,2,5,6,23,24,25,26,27,28,29] ?_;refine bw ?_;have hB:QB k (s.packs.getD i default)=true:=by unfold QB; rw[decide_eq_true g22,decide_eq_true c30]; rfl
   exact KB (i+1) aa ⟨by omega,hS⟩ aB;intro c30;refine bu ?_;refine Oo [1,2,5,6,23,24,25,26,27,28,29] ?_;refine bw ?_;have hB:QB k (s.packs.getD i default)=false:=by unfold QB; rw[decide_eq_true g22,decide_eq_false c30]; rfl
   exact KB (i+1) aa ⟨by omega,hS⟩ aB
  intro g22;have g22:=of_decide_eq_false g22;refine Oa [1,2,5,6,23,24,25,26,27,28,29,30] ?_;refine OP ?_;refine bu ?_;refine Oo [1,2,5,6,23,24,25,26,27,28,29] ?_;refine bw ?_;have hB:QB k (s.packs.getD i default)=false:=by unfold QB; rw[decide_eq_false g22]; rfl
  exact KB (i+1) aa ⟨by omega,hS⟩ aB
 intro c11;refine bh ?_;refine Oo [5] ?_;refine bv ?_;have hie:i=s.packs.length:=by omega
 subst hie;rw[fJ];exact⟨rfl,hS.keeps⟩
theorem Y8 {h:AHeap} {v0 v1 v2 v3:AV} {s:RO} (r:RRo h v0 v1 v2 v3 s) {i:Nat} (hi:i<s.ways.length):ACalls Go.Proofs.Tryz.prog 115 [.agg [v0,v1,v2,v3],.int .i64 (i:Int)] h (fun q h'=>q = .tup [.int .i64 (s.lo i),.int .i64 (s.hi i)]∧Keeps h h'):=by
 refine OV 32 [.tmp 4,.tmp 5] Go.Proofs.Tryz.func115 rfl aD rfl rfl (fB rfl) ?_;have hS:=St.refl h;have h0:v0.one=true:=Rd.one r.rooms;have h1:v1.one=true:=r.ways.one;have h2:v2.one=true:=r.packs.one;have h3:v3.one=true:=Rd.one r.claims;have hrl:=r.rl;have hwl:=r.wl;have hpl:=r.pl;have hcl:=r.cl;show KA _ 32 _ _ [(0,.agg [v0,v1,v2,v3]),(1,.int .i64 (i:Int))] _;refine dX ?_;intro p2 h' hp2 hS;refine Oa [1,2] ?_;refine Ou ?_;refine cU ?_;intro p8 hp8;refine Oe hp8 (hS.rd 0 rfl) rfl ?_;refine Oh ?_;refine OZ KR (r.ext hS.keeps).ways (j:=i) rfl aA ?_;intro p11 hp11;refine K4 KR aD hp11 (r.ext hS.keeps).ways aA ?_;refine Kb hS ?_;intro p6 h' hp6 hS;refine OI hS rfl (i:=0) rfl hp6 aE aJ aJ aD ?_;intro h' hS;simp only[fE,fI,fU] at hS;refine Om [1,2,6] ?_;refine b8 ?_;refine Ob hp6 ?_;intro p13 hp13;refine d8 ?_;refine Oa [1,2,6,15] ?_;refine Ok ?_ ?_;intro c15;refine bz ?_;refine Ob hp6 ?_;intro p16 hp16;refine Oe hp16 (hS.rd 0 rfl) rfl ?_;refine Ob hp6 ?_;intro p18 hp18;refine Oe hp18 (hS.rd 0 rfl) rfl ?_;refine cL ?_;exact⟨by rw[RO.lo,RO.hi,if_pos c15,if_pos c15],hS.keeps⟩
 ·intro c15;refine On [1,2,6] ?_;refine bj ?_;refine b8 ?_;refine Ob hp6 ?_;intro p20 hp20;refine Oe hp20 (hS.rd 0 rfl) rfl ?_;refine Oa [1,2,6,7,22] ?_;refine Ok ?_ ?_
  ·intro c22;refine Kr rfl ?_;refine Ob hp6 ?_;intro p23 hp23;refine Oe hp23 (hS.rd 0 rfl) rfl ?_;refine Oa [1,2,6,7] ?_;refine Ow ?_;refine OX [4] mixed rfl aF ?_;refine Ob hp6 ?_;intro p25 hp25;refine d7 ?_;refine Ox hS (i:=1) rfl hp2 aJ aD ?_;refine Oh ?_;refine Ki aQ (Ub (r.ext hS.keeps)) ?_;rintro _ hx ⟨rfl,hK⟩;replace hS:St _ _ _:=St.trans hS (St.ofK hK)
   try simp only[fM] at hS
   refine KOps.max ?_;refine cL ?_;exact⟨by rw[RO.lo,RO.hi,if_neg c15,if_neg c15,if_pos c22],hS.keeps⟩
  ·intro c22;refine On [1,2,6,7] ?_;refine Ow ?_;refine OX [4] mixed rfl aF ?_;refine Ob hp6 ?_;intro p25 hp25;refine d7 ?_;refine Ox hS (i:=1) rfl hp2 aJ aD ?_;refine Oh ?_;refine Ki aQ (Ub (r.ext hS.keeps)) ?_;rintro _ hx ⟨rfl,hK⟩;replace hS:St _ _ _:=St.trans hS (St.ofK hK)
   try simp only[fM] at hS
   refine KOps.max ?_;refine cL ?_;exact⟨by rw[RO.lo,RO.hi,if_neg c15,if_neg c15,if_neg c22],hS.keeps⟩
theorem X7 {h:AHeap} {v0 v1 v2 v3:AV} {s:RO} (r:RRo h v0 v1 v2 v3 s):ACalls Go.Proofs.Tryz.prog 117 [.agg [v0,v1,v2,v3]] h (fun q h'=>∃ v,q = .agg [.int .i64 s.rm,v]∧St h h' [⟨v,4,flr wc s.ws,true⟩]):=by
 refine KA.fnH 45 [.cell 2 175] Go.Proofs.Tryz.func117 rfl aD rfl rfl (fB rfl) ?_;have hS:=St.refl h;have h0:v0.one=true:=Rd.one r.rooms;have h1:v1.one=true:=r.ways.one;have h2:v2.one=true:=r.packs.one;have h3:v3.one=true:=Rd.one r.claims;have hrl:=r.rl;have hwl:=r.wl;have hpl:=r.pl;have hcl:=r.cl;show KA _ 45 _ _ [(0,.agg [v0,v1,v2,v3])] _;refine dX ?_;intro p1 h' hp1 hS;refine Kb hS ?_;intro p2 h' hp2 hS;refine Om [1,2] ?_;refine Ou ?_;refine Ob hp1 ?_;intro p7 hp7;refine Oe hp7 (hS.rd 1 rfl) rfl ?_;refine O8 (r.ext hS.keeps).rooms ?_;refine Ke (zs:=[.int .i64 0,.nils]) (cs:=[_,_]) aF aJ aF (.cons (off:=0) (s:=1) aF (AV.cells_one aG) rfl aD .nil) aJ ?_;refine Kb hS ?_;intro p3 h' hp3 hS;refine OI hS rfl (i:=0) rfl hp3 aE aJ aJ aD ?_;intro h' hS;simp only[fE,fI,fU] at hS;refine Om [1,2,3] ?_;refine cn ?_;refine Kc (X:=Nat × AV) (fun x=>[(1,p1),(2,p2),(3,p3),(4,.int .i64 (x.1:Int))]) (fun x h'=>x.1≤s.ways.length∧St h h' [⟨p3,0,[.int .i64 s.rm,x.2],true⟩,⟨p2,0,[.int .i64 0,.nils],true⟩,⟨p1,0,[v0,v1,v2,v3],true⟩,⟨x.2,4,flr wc (s.ws.take x.1),true⟩]) (fun x=>s.ways.length - x.1) (0,.nils) ?_ ?_;exact⟨fD _,St.addNil 4 true hS⟩;rintro⟨i,vo⟩ h5 ⟨hi,hS⟩;dsimp only at hi hS⊢;refine Oc ?_;refine Ob hp1 ?_;intro p12 hp12;refine Oe hp12 (hS.rd 2 rfl) rfl ?_;refine Qb KR (r.ext hS.keeps).ways ?_;refine Oa [1,2,3,4,15] ?_;refine Ok ?_ ?_
 ·intro c15;have hlt:i<s.ways.length:=by omega
  refine On [1,2,3,4] ?_;refine dO ?_;refine Ox hS (i:=2) rfl hp1 aJ aD ?_;refine Oh ?_;refine Oj rfl (Y8 (r.ext hS.keeps) hlt) ?_;rintro _ hx ⟨rfl,hK⟩;replace hS:St _ _ _:=St.trans hS (St.ofK hK)
  try simp only[fM] at hS
  refine Oa [1,2,3,4,5,6] ?_;refine OX [18] mixed rfl aF ?_;refine eL ?_;intro p24 hp24;refine Oe hp24 (hS.rd 0 rfl) rfl ?_;refine Ob hp1 ?_;intro p26 hp26;refine Oe hp26 (hS.rd 2 rfl) rfl ?_;refine Oh ?_;refine OZ KR (r.ext hS.keeps).ways (j:=i) rfl aA ?_;intro p29 hp29;refine Ob hp29 ?_;intro p30 hp30;refine KK KR aD hp30 (r.ext hS.keeps).ways aA rfl ?_;refine Ob hp1 ?_;intro p32 hp32;refine Oe hp32 (hS.rd 2 rfl) rfl ?_;refine Oh ?_;refine OZ KR (r.ext hS.keeps).ways (j:=i) rfl aA ?_;intro p35 hp35;refine Ob hp35 ?_;intro p36 hp36;refine KK KR aD hp36 (r.ext hS.keeps).ways aA rfl ?_;refine cw ?_;refine QO (cs:=(wc (s.w i))) hS rfl rfl rfl aD ?_;intro v41 h' hS;refine Qh hS (fun _=>rfl) (i:=4) rfl (a:=i) (by rw[Qr Kj,fX,s.ws_len]; omega) (hS.rd 0 rfl) (b:=1) rfl rfl aB ?_;intro r42 h' hS;simp only[fE,fI,fU] at hS;have hr42:r42.one=true:=St.one hS (k:=4) rfl;have hS0:=St.tail hS;clear hS;have hS:=hS0;clear hS0;refine eL ?_;intro p43 hp43;refine Kf hS rfl (i:=0) rfl hp43 aG aT ?_;intro h' hS;simp only[fE,fI,fU] at hS;refine cF ?_;refine Oo [1,2,3,4] ?_;refine bw ?_;rw[s.ws_next hlt] at hS;exact lpN (i+1,r42) ⟨by dsimp only; omega,hS⟩ aL
 intro c15;refine bh ?_;refine Oo [2,3] ?_;refine d5 ?_;refine OI hS rfl (i:=1) rfl hp2 (by show(true && (vo.one && true))=true; rw[St.one hS (k:=3) rfl]; rfl) aJ aJ aD ?_;intro h' hS;simp only[fE,fI,fU] at hS;refine Om [2] ?_;refine KQ ?_;refine QH hS (i:=1) rfl hp2 aJ aR ?_;have hie:i=s.ways.length:=by omega
 subst hie;rw[←s.ws_len,fJ] at hS;exact⟨_,rfl,St.pick [3] aD rfl hS⟩
end Go.Am
