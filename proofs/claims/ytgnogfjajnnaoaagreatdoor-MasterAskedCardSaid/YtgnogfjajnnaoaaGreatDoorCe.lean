/-
  Layer 14: what a line tells, or its error.
  Conditions: none.
-/
import Derived.Test.YtgnogfjajnnaoaaGreatDoorCd
open Bool renaming or_false → fA, or_true → fE
open List renaming getD_eq_getElem?_getD → fI, getElem?_eq_getElem → fO, length_cons → fU, getElem_mem → fY, drop_length → fB, nil_append → fC
set_option maxRecDepth 99999
set_option maxHeartbeats 4000000
namespace Go.Am
theorem Ut (c:UInt8):∀ (l:Str) (w:Str),w∈OH c l→w.length≤l.length:=by
 intro l
 induction l with
 | nil=>intro w hw; simp[OH] at hw; subst hw; exact Nat.le_refl _
 | cons a l ih=>
  intro w hw;simp only[OH] at hw;split at hw;rcases List.mem_cons.1 hw with rfl|hw
  exact Nat.zero_le _;have:=ih w hw; rw[fU]; omega;split at hw;rename_i x xs he;rcases List.mem_cons.1 hw with rfl|hw
  have:=ih x (by rw[he]; exact List.mem_cons_self);rw[fU,fU]; omega;have:=ih w (by rw[he]; exact List.mem_cons_of_mem _ hw); rw[fU]; omega;simp at hw; subst hw; simp
theorem WR (c:UInt8):∀ l:Str,(OH c l).length≤l.length+1:=by
 intro l
 induction l with
 | nil=>simp[OH]
 | cons a l ih=>
  simp only[OH];split;simp; omega;split;rename_i x xs he; rw[he] at ih; simp at ih⊢; omega;simp
theorem formL_mem (k:Str):∀ c∈OJ k,c=119∨c=110∨c=112:=by
 intro c hc;unfold OJ at hc;split at hc;simp at hc; simp[hc];split at hc;simp at hc; simp[hc];split at hc;simp at hc; rcases hc with rfl|rfl <;> simp
 split at hc;simp at hc; rcases hc with rfl|rfl <;> simp
 split at hc;simp at hc; simp[hc];cases hc
theorem RE (k:Str):(OJ k).length≤3:=by
 unfold OJ;split;decide;split;decide;split;decide;split;decide;split <;> decide
theorem drop_at {α:Type} [Inhabited α] {l:List α} {p:Nat} {d : α} (h:p<l.length):l.drop p=l.getD p d::l.drop (p+1):=by
 rw[List.drop_eq_getElem_cons h,fI,fO h,Option.getD_some]
theorem getD_drop1 (l:List Str) (p:Nat):(l.drop 1).getD p []=l.getD (p+1) []:=by
 rw[fI,List.getElem?_drop,fI,Nat.add_comm]
theorem getD_small {c:UInt8} {l:Str} {p:Nat}:((OH c l).getD p []).length≤l.length:=by
 rw[fI];by_cases h:p<(OH c l).length;rw[fO h]; exact Ut c l _ (fY h);rw[List.getElem?_eq_none aB]; exact Nat.zero_le _
theorem isName_of {w:Str} (h:w≠[]):XU w=UF w:=by
 unfold XU UF;rw[decide_eq_true h,Bool.true_and]
theorem KP {c:UInt8} {w:Str} (hcm:c=119∨c=110∨c=112):Kz c w=((decide ((c.toNat:Int)=112) && decide (K9 w=0)) || (decide ((c.toNat:Int)=110) && decide (99<K9 w))):=by
 unfold Kz;rcases hcm with q|q|q <;> subst q <;> rfl
theorem KI {c:UInt8} {w:Str} (hcm:c=119∨c=110∨c=112) (hne:w≠[]):Kq c w=if (c.toNat:Int)=119 then (if UF w then 0 else 10) else if K6 w 3 then 0 else 9:=by
 unfold Kq;rw[isName_of hne];rcases hcm with q|q|q <;> subst q <;> rfl
theorem tellV_one (t:Tell):(K5 t).one=true:=by cases t <;> rfl
structure Vs (h:AHeap):Prop where
  sz:Sizes h
  mx:Mx h
  pw:Pow h
theorem Vs.ext {h h':AHeap} (z:Vs h) (k:Keeps h h'):Vs h':=⟨z.sz.ext k,z.mx.ext k,z.pw.ext k⟩
theorem read_c {h:AHeap} {l:Str} (hM:Mx h) (hl:l.length≤1000000):ACalls Go.Proofs.Tryz.prog 68 [.str (wd l)] h (fun q h'=>(∃ v,v.one=true∧q = .tup [v,.int .i64 (KG l)]∧(KG l=0→v=K5 (QF l)))∧Keeps h h'):=by
 refine OV 93 [.tmp 2,.tmp 3] Go.Proofs.Tryz.func68 rfl aD rfl rfl (Nat.le_of_ble_eq_true rfl) ?_;have hS:=St.refl h;show KA _ 93 _ _ [(0,.str (wd l))] _;refine Oa [0] ?_;refine Oa [0,14] ?_;refine Ok ?_ ?_;intro c14;refine cM ?_;have hq:KG l=19:=by
  unfold KG; rw[if_pos aB]
 exact⟨⟨_,rfl,by rw[hq],fun h0=>by rw[hq] at h0; cases h0⟩,hS.keeps⟩
 ·intro c14;refine On [0] ?_;refine Oc ?_;refine Oj rfl (split_c hM hl) ?_;rintro v16 h16 ⟨hsl,hS16⟩;replace hS:St _ _ (_::_):=St.trans hS hS16;refine Oa [0,4] ?_;refine b8 ?_;have hln:=WR 32 l;have hlm:=@getD_small 32 l;have hl0:=List.length_pos_iff.2 (RM 32 l);refine Oh ?_;refine Oj rfl (YG (hS.rd 0 rfl) aB) ?_;rintro _ _ ⟨rfl,rfl⟩;refine Oh ?_;refine Oy (dj:=19) rfl rfl false true rfl ?_ ?_
  ·intro g19;have g19:=of_decide_eq_false g19;refine Oc ?_;refine Oj rfl (RY hl) ?_;rintro _ hx ⟨rfl,hK⟩;replace hS:St _ _ _:=St.trans hS (St.ofK hK);simp only[fC] at hS;refine Oa [4,22] ?_;refine Ko ?_ ?_;intro c22;refine cM ?_;have hq:KG l=9:=by
    unfold KG; simp only[]; rw[if_neg aB,if_pos (.inr (show l.any V2=true from c22))]
   exact⟨⟨_,rfl,by rw[hq],fun h0=>by rw[hq] at h0; cases h0⟩,hS.keeps⟩
   ·intro c22;refine On [4] ?_;refine Oc ?_;refine Oq (hS.rd 0 rfl) (j:=0) rfl aA ?_;intro p24 hp24;refine OY hp24 (hS.rd 0 rfl) aA ?_;refine Oj rfl (form_c) ?_;rintro _ _ ⟨rfl,rfl⟩;refine Oa [4,5] ?_;refine b4 ?_;refine Oa [4,5,27] ?_;refine Ok ?_ ?_;intro c27;refine cM ?_;have hq:KG l=8:=by
     unfold KG; simp only[]; rw[if_neg aB,if_neg ay,if_pos c27]
    exact⟨⟨_,rfl,by rw[hq],fun h0=>by rw[hq] at h0; cases h0⟩,hS.keeps⟩
    ·intro c27;refine Ou ?_;have hf3:=RE ((OH 32 l).getD 0 []);refine Oh ?_;refine O8 (hS.rd 0 rfl) ?_;refine Oa [4,5,30] ?_;refine O3 ?_ ?_;intro c30;refine cM ?_;have hq:KG l=5:=by
      unfold KG; simp only[]; rw[if_neg aB,if_neg ay,if_neg c27,if_pos aB]
     exact⟨⟨_,rfl,by rw[hq],fun h0=>by rw[hq] at h0; cases h0⟩,hS.keeps⟩
     ·intro c30;refine bu ?_;refine Oo [4,5] ?_;refine Ou ?_;obtain⟨hfn,hfl⟩:OJ ((OH 32 l).getD 0 [])≠[]∧(OH 32 l).length=(OJ ((OH 32 l).getD 0 [])).length+1:=⟨c27,by omega⟩;have hf3:=RE ((OH 32 l).getD 0 []);have hfm:=formL_mem ((OH 32 l).getD 0 []);generalize hfe:OJ ((OH 32 l).getD 0 [])=f at *;have hre:KG l=if KZ f ((OH 32 l).drop 1)≠0 then KZ f ((OH 32 l).drop 1) else if Xx f ((OH 32 l).drop 1) then 1 else 0:=by
       unfold KG;simp only[hfe];rw[if_neg aB,if_neg (by intro h; rcases h with h|h; exact g19 h; rw[show(fun c:UInt8=>decide (c.toNat<32∨126<c.toNat))=V2 from rfl] at h; simp[h] at c22),if_neg hfn,if_neg aB]
      have hnw:∀ p,p<f.length→(OH 32 l).getD (p+1) []≠[]:=by
       intro p hp he;refine g19 ?_;rw[fI,fO (show p+1<(OH 32 l).length by omega),Option.getD_some] at he;rw[←he];exact fY _
      refine bj ?_;refine Oc ?_;refine KOps.range hS rfl ?_;intro v38 h' hv38 hS;refine Om [4,6,7,38] ?_;refine Oz ?_;refine Kc (X:=Nat × Bool × Int) (fun x=>[(4,v16),(6,.int .i64 x.2.2),(7,.int .i64 (if x.2.1 then 1 else 0)),(38,v38)]) (fun x h'=>x.1≤f.length∧KZ f ((OH 32 l).drop 1)=KZ (f.drop x.1) (((OH 32 l).drop 1).drop x.1)∧Xx f ((OH 32 l).drop 1)=(x.2.1 || Xx (f.drop x.1) (((OH 32 l).drop 1).drop x.1))∧Vy f ((OH 32 l).drop 1) 0=Vy (f.drop x.1) (((OH 32 l).drop 1).drop x.1) x.2.2∧St h h' [walkO v38 (wd f) x.1,⟨v16,1,wcs (OH 32 l),true⟩]) (fun x=>f.length - x.1) (0,false,0) ?_ ?_;exact⟨Nat.zero_le _,rfl,by simp,rfl,hS⟩;rintro⟨p,eb,n⟩ h2 ⟨hp,hw,hfr,hnm,hS⟩;dsimp only at hp hw hfr hnm hS⊢;refine Ou ?_;refine KOps.next hS hv38 (i:=0) rfl rfl ?_ ?_
      ·intro np h' hS;simp only[List.set_cons_zero,List.set_cons_succ,Nat.zero_add] at hS;have hlt:p<f.length:=by rw[wd_size] at np; exact np
       have hcm:=hfm (f.getD p 0) (by rw[fI,fO hlt,Option.getD_some]; exact fY hlt);have hc8:(f.getD p 0).toNat<128:=by rcases hcm with q|q|q <;> rw[q] <;> decide
       simp only[Y9 hlt hc8] at hS⊢;have hd1:=drop_at (d:=(0:UInt8)) hlt;have hd2:=drop_at (l:=(OH 32 l).drop 1) (p:=p) (d:=([]:Str)) bQ;rw[getD_drop1] at hd2;rw[hd1,hd2] at hw hfr hnm;have hne:=hnw p hlt;generalize hce:f.getD p 0=c at *;obtain⟨w,hwe⟩:∃ w,(OH 32 l).getD (p+1) []=w:=⟨_,rfl⟩;rw[hwe] at hne hw hfr hnm;have hwl:w.length≤1000000:=by have:=hlm (p:=p+1); rw[hwe] at this; omega
       have hcn:(c.toNat=119↔c=119)∧(c.toNat=110↔c=110)∧(c.toNat=112↔c=112):=by
        rcases hcm with q|q|q <;> rw[q] <;> decide
       refine eB ?_;refine Kw ?_;refine On [4,6,7,38,39] ?_;refine Oz ?_;refine Oa [4,6,7,8,9,38] ?_;refine Oc ?_;refine Oq (hS.rd 1 rfl) (j:=_) rfl aA ?_;intro p47 hp47;refine OY hp47 (hS.rd 1 rfl) aA ?_;rw[hwe];refine Oj rfl (number_c (m:=3) aD hwl) ?_;rintro _ hx ⟨rfl,hK⟩;replace hS:St _ _ _:=St.trans hS (St.ofK hK);simp only[fC] at hS;refine Oa [4,6,7,8,9,10,11,38] ?_;refine KA.meet (X:=Bool) (fun y=>[(4,v16),(6,.int .i64 n),(7,.int .i64 (if y then 1 else 0)),(9,.int .i32 (c.toNat:Int)),(10,.int .i64 (if K6 w 3 then K9 w else 0)),(38,v38)]) (fun y h'=>Kq c w=0∧y=(eb || Kz c w)∧St h h' [walkO v38 (wd f) (p+1),⟨v16,1,wcs (OH 32 l),true⟩]) ?_ ?_
       ·
         refine Oz ?_;refine Oc ?_;refine Oy (dj:=55) rfl rfl true false rfl ?_ ?_
         · intro g55;have g55:=of_decide_eq_true g55;refine Oc ?_;refine Oq (hS.rd 1 rfl) (j:=_) rfl aA ?_;intro p59 hp59;refine Og (dj:=55) rfl rfl ?_;refine OY hp59 (hS.rd 1 rfl) aA ?_;rw[hwe];refine Og (dj:=55) rfl rfl ?_;refine Oj rfl (named_c hwl) ?_;rintro _ _ ⟨rfl,rfl⟩;refine Oa [4,6,7,9,10,11,38,52,56,57,58,59,60,61,62] ?_;refine Ko ?_ ?_;intro c52;refine dZ ?_;refine Qx ?_;refine mtQ.ret ?_;refine Oi ?_;have hb0:Kq c w=10:=by
             rw[KI hcm hne];clear hS hw hfr hnm hre hd1 hd2 hnw hfm hfe hlm hcn hcm hne;simp_all
           have hw0:KZ f ((OH 32 l).drop 1)=10:=by
             rw[hw,KZ,if_neg (by rw[hb0]; decide),hb0]
           have hq:KG l=10:=by
             rw[hre,hw0,if_pos aD]
           exact⟨⟨_,rfl,by rw[hq],fun h0=>by rw[hq] at h0; cases h0⟩,hS.keeps⟩
           · intro c52;refine Oc ?_;refine Oy (dj:=67) rfl rfl true false rfl ?_ ?_
             · intro g67;have g67:=KV g67;refine Oa [4,6,7,9,10,38,56,57,58,59,60,61,62,64,68,69] ?_;refine Ko ?_ ?_;intro c64;refine dZ ?_;refine Qx ?_;refine mtQ.ret ?_;refine Oi ?_;have hb0:Kq c w=9:=by
                 rw[KI hcm hne];clear hS hw hfr hnm hre hd1 hd2 hnw hfm hfe hlm hcn hcm hne;simp_all
               have hw0:KZ f ((OH 32 l).drop 1)=9:=by
                 rw[hw,KZ,if_neg (by rw[hb0]; decide),hb0]
               have hq:KG l=9:=by
                 rw[hre,hw0,if_pos aD]
               exact⟨⟨_,rfl,by rw[hq],fun h0=>by rw[hq] at h0; cases h0⟩,hS.keeps⟩
               · intro c64;refine Oc ?_;refine Oy (dj:=74) rfl rfl true false rfl ?_ ?_
                 · intro g74;have g74:=of_decide_eq_true g74;refine cX ?_;refine Ok ?_ ?_
                   · intro c71;refine OB ?_;refine Od ?_;refine Ok ?_ ?_
                     · intro c71;refine cj ?_;have hfn1:=KP (w:=w) hcm;have hbn1:=KI hcm hne
                       first
                         | (exfalso; omega)
                         | (have hfw:Kz c w=false:=by
                              rw[hfn1]; clear hS hw hfr hnm hre hd1 hd2 hnw hfm hfe hlm hcn hcm hne hbn1; simp_all
                            have hbw:Kq c w=0:=by
                              rw[hbn1]; clear hS hw hfr hnm hre hd1 hd2 hnw hfm hfe hlm hcn hcm hne hfn1 hfw; simp_all
                            exact mtN eb ⟨hbw,by rw[hfw,fA],hS⟩)
                         | (have hfw:Kz c w=true:=by
                              rw[hfn1]; clear hS hw hfr hnm hre hd1 hd2 hnw hfm hfe hlm hcn hcm hne hbn1; simp_all
                            have hbw:Kq c w=0:=by
                              rw[hbn1]; clear hS hw hfr hnm hre hd1 hd2 hnw hfm hfe hlm hcn hcm hne hfn1 hfw; simp_all
                            exact mtN true ⟨hbw,by rw[hfw,fE],hS⟩)
                     · intro c71;refine dG ?_;have hfn1:=KP (w:=w) hcm;have hbn1:=KI hcm hne
                       first
                         | (exfalso; omega)
                         | (have hfw:Kz c w=false:=by
                              rw[hfn1]; clear hS hw hfr hnm hre hd1 hd2 hnw hfm hfe hlm hcn hcm hne hbn1; simp_all
                            have hbw:Kq c w=0:=by
                              rw[hbn1]; clear hS hw hfr hnm hre hd1 hd2 hnw hfm hfe hlm hcn hcm hne hfn1 hfw; simp_all
                            exact mtN eb ⟨hbw,by rw[hfw,fA],hS⟩)
                         | (have hfw:Kz c w=true:=by
                              rw[hfn1]; clear hS hw hfr hnm hre hd1 hd2 hnw hfm hfe hlm hcn hcm hne hbn1; simp_all
                            have hbw:Kq c w=0:=by
                              rw[hbn1]; clear hS hw hfr hnm hre hd1 hd2 hnw hfm hfe hlm hcn hcm hne hfn1 hfw; simp_all
                            exact mtN true ⟨hbw,by rw[hfw,fE],hS⟩)
                   · intro c71;refine Oc ?_;refine Oy (dj:=80) rfl rfl true false rfl ?_ ?_
                     · intro g80;have g80:=of_decide_eq_true g80;refine b3 ?_;refine Ok ?_ ?_
                       · intro c71;refine cj ?_;have hfn1:=KP (w:=w) hcm;have hbn1:=KI hcm hne
                         first
                           | (exfalso; omega)
                           | (have hfw:Kz c w=false:=by
                                rw[hfn1]; clear hS hw hfr hnm hre hd1 hd2 hnw hfm hfe hlm hcn hcm hne hbn1; simp_all
                              have hbw:Kq c w=0:=by
                                rw[hbn1]; clear hS hw hfr hnm hre hd1 hd2 hnw hfm hfe hlm hcn hcm hne hfn1 hfw; simp_all
                              exact mtN eb ⟨hbw,by rw[hfw,fA],hS⟩)
                           | (have hfw:Kz c w=true:=by
                                rw[hfn1]; clear hS hw hfr hnm hre hd1 hd2 hnw hfm hfe hlm hcn hcm hne hbn1; simp_all
                              have hbw:Kq c w=0:=by
                                rw[hbn1]; clear hS hw hfr hnm hre hd1 hd2 hnw hfm hfe hlm hcn hcm hne hfn1 hfw; simp_all
                              exact mtN true ⟨hbw,by rw[hfw,fE],hS⟩)
                       · intro c71;refine dG ?_;have hfn1:=KP (w:=w) hcm;have hbn1:=KI hcm hne
                         first
                           | (exfalso; omega)
                           | (have hfw:Kz c w=false:=by
                                rw[hfn1]; clear hS hw hfr hnm hre hd1 hd2 hnw hfm hfe hlm hcn hcm hne hbn1; simp_all
                              have hbw:Kq c w=0:=by
                                rw[hbn1]; clear hS hw hfr hnm hre hd1 hd2 hnw hfm hfe hlm hcn hcm hne hfn1 hfw; simp_all
                              exact mtN eb ⟨hbw,by rw[hfw,fA],hS⟩)
                           | (have hfw:Kz c w=true:=by
                                rw[hfn1]; clear hS hw hfr hnm hre hd1 hd2 hnw hfm hfe hlm hcn hcm hne hbn1; simp_all
                              have hbw:Kq c w=0:=by
                                rw[hbn1]; clear hS hw hfr hnm hre hd1 hd2 hnw hfm hfe hlm hcn hcm hne hfn1 hfw; simp_all
                              exact mtN true ⟨hbw,by rw[hfw,fE],hS⟩)
                     · intro g80;have g80:=of_decide_eq_false g80;refine eA ?_;have hfn1:=KP (w:=w) hcm;have hbn1:=KI hcm hne
                       first
                         | (exfalso; omega)
                         | (have hfw:Kz c w=false:=by
                              rw[hfn1]; clear hS hw hfr hnm hre hd1 hd2 hnw hfm hfe hlm hcn hcm hne hbn1; simp_all
                            have hbw:Kq c w=0:=by
                              rw[hbn1]; clear hS hw hfr hnm hre hd1 hd2 hnw hfm hfe hlm hcn hcm hne hfn1 hfw; simp_all
                            exact mtN eb ⟨hbw,by rw[hfw,fA],hS⟩)
                         | (have hfw:Kz c w=true:=by
                              rw[hfn1]; clear hS hw hfr hnm hre hd1 hd2 hnw hfm hfe hlm hcn hcm hne hbn1; simp_all
                            have hbw:Kq c w=0:=by
                              rw[hbn1]; clear hS hw hfr hnm hre hd1 hd2 hnw hfm hfe hlm hcn hcm hne hfn1 hfw; simp_all
                            exact mtN true ⟨hbw,by rw[hfw,fE],hS⟩)
                 · intro g74;have g74:=of_decide_eq_false g74;refine cX ?_;refine OP ?_;refine Oc ?_;refine Oy (dj:=80) rfl rfl true false rfl ?_ ?_
                   · intro g80;have g80:=of_decide_eq_true g80;refine b3 ?_;refine Ok ?_ ?_
                     · intro c71;refine cj ?_;have hfn1:=KP (w:=w) hcm;have hbn1:=KI hcm hne
                       first
                         | (exfalso; omega)
                         | (have hfw:Kz c w=false:=by
                              rw[hfn1]; clear hS hw hfr hnm hre hd1 hd2 hnw hfm hfe hlm hcn hcm hne hbn1; simp_all
                            have hbw:Kq c w=0:=by
                              rw[hbn1]; clear hS hw hfr hnm hre hd1 hd2 hnw hfm hfe hlm hcn hcm hne hfn1 hfw; simp_all
                            exact mtN eb ⟨hbw,by rw[hfw,fA],hS⟩)
                         | (have hfw:Kz c w=true:=by
                              rw[hfn1]; clear hS hw hfr hnm hre hd1 hd2 hnw hfm hfe hlm hcn hcm hne hbn1; simp_all
                            have hbw:Kq c w=0:=by
                              rw[hbn1]; clear hS hw hfr hnm hre hd1 hd2 hnw hfm hfe hlm hcn hcm hne hfn1 hfw; simp_all
                            exact mtN true ⟨hbw,by rw[hfw,fE],hS⟩)
                     · intro c71;refine dG ?_;have hfn1:=KP (w:=w) hcm;have hbn1:=KI hcm hne
                       first
                         | (exfalso; omega)
                         | (have hfw:Kz c w=false:=by
                              rw[hfn1]; clear hS hw hfr hnm hre hd1 hd2 hnw hfm hfe hlm hcn hcm hne hbn1; simp_all
                            have hbw:Kq c w=0:=by
                              rw[hbn1]; clear hS hw hfr hnm hre hd1 hd2 hnw hfm hfe hlm hcn hcm hne hfn1 hfw; simp_all
                            exact mtN eb ⟨hbw,by rw[hfw,fA],hS⟩)
                         | (have hfw:Kz c w=true:=by
                              rw[hfn1]; clear hS hw hfr hnm hre hd1 hd2 hnw hfm hfe hlm hcn hcm hne hbn1; simp_all
                            have hbw:Kq c w=0:=by
                              rw[hbn1]; clear hS hw hfr hnm hre hd1 hd2 hnw hfm hfe hlm hcn hcm hne hfn1 hfw; simp_all
                            exact mtN true ⟨hbw,by rw[hfw,fE],hS⟩)
                   · intro g80;have g80:=of_decide_eq_false g80;refine eA ?_;have hfn1:=KP (w:=w) hcm;have hbn1:=KI hcm hne
                     first
                       | (exfalso; omega)
                       | (have hfw:Kz c w=false:=by
                            rw[hfn1]; clear hS hw hfr hnm hre hd1 hd2 hnw hfm hfe hlm hcn hcm hne hbn1; simp_all
                          have hbw:Kq c w=0:=by
                            rw[hbn1]; clear hS hw hfr hnm hre hd1 hd2 hnw hfm hfe hlm hcn hcm hne hfn1 hfw; simp_all
                          exact mtN eb ⟨hbw,by rw[hfw,fA],hS⟩)
                       | (have hfw:Kz c w=true:=by
                            rw[hfn1]; clear hS hw hfr hnm hre hd1 hd2 hnw hfm hfe hlm hcn hcm hne hbn1; simp_all
                          have hbw:Kq c w=0:=by
                            rw[hbn1]; clear hS hw hfr hnm hre hd1 hd2 hnw hfm hfe hlm hcn hcm hne hfn1 hfw; simp_all
                          exact mtN true ⟨hbw,by rw[hfw,fE],hS⟩)
             · intro g67;have g67:=Qe g67;refine Oa [4,6,7,9,10,38,56,57,58,59,60,61,62,64,68,69] ?_;refine OP ?_;refine Oc ?_;refine Oy (dj:=74) rfl rfl true false rfl ?_ ?_
               · intro g74;have g74:=of_decide_eq_true g74;refine cX ?_;refine Ok ?_ ?_
                 · intro c71;refine OB ?_;refine Od ?_;refine Ok ?_ ?_
                   · intro c71;refine cj ?_;have hfn1:=KP (w:=w) hcm;have hbn1:=KI hcm hne
                     first
                       | (exfalso; omega)
                       | (have hfw:Kz c w=false:=by
                            rw[hfn1]; clear hS hw hfr hnm hre hd1 hd2 hnw hfm hfe hlm hcn hcm hne hbn1; simp_all
                          have hbw:Kq c w=0:=by
                            rw[hbn1]; clear hS hw hfr hnm hre hd1 hd2 hnw hfm hfe hlm hcn hcm hne hfn1 hfw; simp_all
                          exact mtN eb ⟨hbw,by rw[hfw,fA],hS⟩)
                       | (have hfw:Kz c w=true:=by
                            rw[hfn1]; clear hS hw hfr hnm hre hd1 hd2 hnw hfm hfe hlm hcn hcm hne hbn1; simp_all
                          have hbw:Kq c w=0:=by
                            rw[hbn1]; clear hS hw hfr hnm hre hd1 hd2 hnw hfm hfe hlm hcn hcm hne hfn1 hfw; simp_all
                          exact mtN true ⟨hbw,by rw[hfw,fE],hS⟩)
                   · intro c71;refine dG ?_;have hfn1:=KP (w:=w) hcm;have hbn1:=KI hcm hne
                     first
                       | (exfalso; omega)
                       | (have hfw:Kz c w=false:=by
                            rw[hfn1]; clear hS hw hfr hnm hre hd1 hd2 hnw hfm hfe hlm hcn hcm hne hbn1; simp_all
                          have hbw:Kq c w=0:=by
                            rw[hbn1]; clear hS hw hfr hnm hre hd1 hd2 hnw hfm hfe hlm hcn hcm hne hfn1 hfw; simp_all
                          exact mtN eb ⟨hbw,by rw[hfw,fA],hS⟩)
                       | (have hfw:Kz c w=true:=by
                            rw[hfn1]; clear hS hw hfr hnm hre hd1 hd2 hnw hfm hfe hlm hcn hcm hne hbn1; simp_all
                          have hbw:Kq c w=0:=by
                            rw[hbn1]; clear hS hw hfr hnm hre hd1 hd2 hnw hfm hfe hlm hcn hcm hne hfn1 hfw; simp_all
                          exact mtN true ⟨hbw,by rw[hfw,fE],hS⟩)
                 · intro c71;refine Oc ?_;refine Oy (dj:=80) rfl rfl true false rfl ?_ ?_
                   · intro g80;have g80:=of_decide_eq_true g80;refine b3 ?_;refine Ok ?_ ?_
                     · intro c71;refine cj ?_;have hfn1:=KP (w:=w) hcm;have hbn1:=KI hcm hne
                       first
                         | (exfalso; omega)
                         | (have hfw:Kz c w=false:=by
                              rw[hfn1]; clear hS hw hfr hnm hre hd1 hd2 hnw hfm hfe hlm hcn hcm hne hbn1; simp_all
                            have hbw:Kq c w=0:=by
                              rw[hbn1]; clear hS hw hfr hnm hre hd1 hd2 hnw hfm hfe hlm hcn hcm hne hfn1 hfw; simp_all
                            exact mtN eb ⟨hbw,by rw[hfw,fA],hS⟩)
                         | (have hfw:Kz c w=true:=by
                              rw[hfn1]; clear hS hw hfr hnm hre hd1 hd2 hnw hfm hfe hlm hcn hcm hne hbn1; simp_all
                            have hbw:Kq c w=0:=by
                              rw[hbn1]; clear hS hw hfr hnm hre hd1 hd2 hnw hfm hfe hlm hcn hcm hne hfn1 hfw; simp_all
                            exact mtN true ⟨hbw,by rw[hfw,fE],hS⟩)
                     · intro c71;refine dG ?_;have hfn1:=KP (w:=w) hcm;have hbn1:=KI hcm hne
                       first
                         | (exfalso; omega)
                         | (have hfw:Kz c w=false:=by
                              rw[hfn1]; clear hS hw hfr hnm hre hd1 hd2 hnw hfm hfe hlm hcn hcm hne hbn1; simp_all
                            have hbw:Kq c w=0:=by
                              rw[hbn1]; clear hS hw hfr hnm hre hd1 hd2 hnw hfm hfe hlm hcn hcm hne hfn1 hfw; simp_all
                            exact mtN eb ⟨hbw,by rw[hfw,fA],hS⟩)
                         | (have hfw:Kz c w=true:=by
                              rw[hfn1]; clear hS hw hfr hnm hre hd1 hd2 hnw hfm hfe hlm hcn hcm hne hbn1; simp_all
                            have hbw:Kq c w=0:=by
                              rw[hbn1]; clear hS hw hfr hnm hre hd1 hd2 hnw hfm hfe hlm hcn hcm hne hfn1 hfw; simp_all
                            exact mtN true ⟨hbw,by rw[hfw,fE],hS⟩)
                   · intro g80;have g80:=of_decide_eq_false g80;refine eA ?_;have hfn1:=KP (w:=w) hcm;have hbn1:=KI hcm hne
                     first
                       | (exfalso; omega)
                       | (have hfw:Kz c w=false:=by
                            rw[hfn1]; clear hS hw hfr hnm hre hd1 hd2 hnw hfm hfe hlm hcn hcm hne hbn1; simp_all
                          have hbw:Kq c w=0:=by
                            rw[hbn1]; clear hS hw hfr hnm hre hd1 hd2 hnw hfm hfe hlm hcn hcm hne hfn1 hfw; simp_all
                          exact mtN eb ⟨hbw,by rw[hfw,fA],hS⟩)
                       | (have hfw:Kz c w=true:=by
                            rw[hfn1]; clear hS hw hfr hnm hre hd1 hd2 hnw hfm hfe hlm hcn hcm hne hbn1; simp_all
                          have hbw:Kq c w=0:=by
                            rw[hbn1]; clear hS hw hfr hnm hre hd1 hd2 hnw hfm hfe hlm hcn hcm hne hfn1 hfw; simp_all
                          exact mtN true ⟨hbw,by rw[hfw,fE],hS⟩)
               · intro g74;have g74:=of_decide_eq_false g74;refine cX ?_;refine OP ?_;refine Oc ?_;refine Oy (dj:=80) rfl rfl true false rfl ?_ ?_
                 · intro g80;have g80:=of_decide_eq_true g80;refine b3 ?_;refine Ok ?_ ?_
                   · intro c71;refine cj ?_;have hfn1:=KP (w:=w) hcm;have hbn1:=KI hcm hne
                     first
                       | (exfalso; omega)
                       | (have hfw:Kz c w=false:=by
                            rw[hfn1]; clear hS hw hfr hnm hre hd1 hd2 hnw hfm hfe hlm hcn hcm hne hbn1; simp_all
                          have hbw:Kq c w=0:=by
                            rw[hbn1]; clear hS hw hfr hnm hre hd1 hd2 hnw hfm hfe hlm hcn hcm hne hfn1 hfw; simp_all
                          exact mtN eb ⟨hbw,by rw[hfw,fA],hS⟩)
                       | (have hfw:Kz c w=true:=by
                            rw[hfn1]; clear hS hw hfr hnm hre hd1 hd2 hnw hfm hfe hlm hcn hcm hne hbn1; simp_all
                          have hbw:Kq c w=0:=by
                            rw[hbn1]; clear hS hw hfr hnm hre hd1 hd2 hnw hfm hfe hlm hcn hcm hne hfn1 hfw; simp_all
                          exact mtN true ⟨hbw,by rw[hfw,fE],hS⟩)
                   · intro c71;refine dG ?_;have hfn1:=KP (w:=w) hcm;have hbn1:=KI hcm hne
                     first
                       | (exfalso; omega)
                       | (have hfw:Kz c w=false:=by
                            rw[hfn1]; clear hS hw hfr hnm hre hd1 hd2 hnw hfm hfe hlm hcn hcm hne hbn1; simp_all
                          have hbw:Kq c w=0:=by
                            rw[hbn1]; clear hS hw hfr hnm hre hd1 hd2 hnw hfm hfe hlm hcn hcm hne hfn1 hfw; simp_all
                          exact mtN eb ⟨hbw,by rw[hfw,fA],hS⟩)
                       | (have hfw:Kz c w=true:=by
                            rw[hfn1]; clear hS hw hfr hnm hre hd1 hd2 hnw hfm hfe hlm hcn hcm hne hbn1; simp_all
                          have hbw:Kq c w=0:=by
                            rw[hbn1]; clear hS hw hfr hnm hre hd1 hd2 hnw hfm hfe hlm hcn hcm hne hfn1 hfw; simp_all
                          exact mtN true ⟨hbw,by rw[hfw,fE],hS⟩)
                 · intro g80;have g80:=of_decide_eq_false g80;refine eA ?_;have hfn1:=KP (w:=w) hcm;have hbn1:=KI hcm hne
                   first
                     | (exfalso; omega)
                     | (have hfw:Kz c w=false:=by
                          rw[hfn1]; clear hS hw hfr hnm hre hd1 hd2 hnw hfm hfe hlm hcn hcm hne hbn1; simp_all
                        have hbw:Kq c w=0:=by
                          rw[hbn1]; clear hS hw hfr hnm hre hd1 hd2 hnw hfm hfe hlm hcn hcm hne hfn1 hfw; simp_all
                        exact mtN eb ⟨hbw,by rw[hfw,fA],hS⟩)
                     | (have hfw:Kz c w=true:=by
                          rw[hfn1]; clear hS hw hfr hnm hre hd1 hd2 hnw hfm hfe hlm hcn hcm hne hbn1; simp_all
                        have hbw:Kq c w=0:=by
                          rw[hbn1]; clear hS hw hfr hnm hre hd1 hd2 hnw hfm hfe hlm hcn hcm hne hfn1 hfw; simp_all
                        exact mtN true ⟨hbw,by rw[hfw,fE],hS⟩)
         · intro g55;have g55:=of_decide_eq_false g55;refine Oa [4,6,7,9,10,11,38,52,56,57,58,59,60,61,62] ?_;refine OP ?_;refine Oc ?_;refine Oy (dj:=67) rfl rfl true false rfl ?_ ?_
           · intro g67;have g67:=KV g67;refine Oa [4,6,7,9,10,38,56,57,58,59,60,61,62,64,68,69] ?_;refine Ko ?_ ?_;intro c64;refine dZ ?_;refine Qx ?_;refine mtQ.ret ?_;refine Oi ?_;have hb0:Kq c w=9:=by
               rw[KI hcm hne];clear hS hw hfr hnm hre hd1 hd2 hnw hfm hfe hlm hcn hcm hne;simp_all
             have hw0:KZ f ((OH 32 l).drop 1)=9:=by
               rw[hw,KZ,if_neg (by rw[hb0]; decide),hb0]
             have hq:KG l=9:=by
               rw[hre,hw0,if_pos aD]
             exact⟨⟨_,rfl,by rw[hq],fun h0=>by rw[hq] at h0; cases h0⟩,hS.keeps⟩
             · intro c64;refine Oc ?_;refine Oy (dj:=74) rfl rfl true false rfl ?_ ?_
               · intro g74;have g74:=of_decide_eq_true g74;refine cX ?_;refine Ok ?_ ?_
                 · intro c71;refine OB ?_;refine Od ?_;refine Ok ?_ ?_
                   · intro c71;refine cj ?_;have hfn1:=KP (w:=w) hcm;have hbn1:=KI hcm hne
                     first
                       | (exfalso; omega)
                       | (have hfw:Kz c w=false:=by
                            rw[hfn1]; clear hS hw hfr hnm hre hd1 hd2 hnw hfm hfe hlm hcn hcm hne hbn1; simp_all
                          have hbw:Kq c w=0:=by
                            rw[hbn1]; clear hS hw hfr hnm hre hd1 hd2 hnw hfm hfe hlm hcn hcm hne hfn1 hfw; simp_all
                          exact mtN eb ⟨hbw,by rw[hfw,fA],hS⟩)
                       | (have hfw:Kz c w=true:=by
                            rw[hfn1]; clear hS hw hfr hnm hre hd1 hd2 hnw hfm hfe hlm hcn hcm hne hbn1; simp_all
                          have hbw:Kq c w=0:=by
                            rw[hbn1]; clear hS hw hfr hnm hre hd1 hd2 hnw hfm hfe hlm hcn hcm hne hfn1 hfw; simp_all
                          exact mtN true ⟨hbw,by rw[hfw,fE],hS⟩)
                   · intro c71;refine dG ?_;have hfn1:=KP (w:=w) hcm;have hbn1:=KI hcm hne
                     first
                       | (exfalso; omega)
                       | (have hfw:Kz c w=false:=by
                            rw[hfn1]; clear hS hw hfr hnm hre hd1 hd2 hnw hfm hfe hlm hcn hcm hne hbn1; simp_all
                          have hbw:Kq c w=0:=by
                            rw[hbn1]; clear hS hw hfr hnm hre hd1 hd2 hnw hfm hfe hlm hcn hcm hne hfn1 hfw; simp_all
                          exact mtN eb ⟨hbw,by rw[hfw,fA],hS⟩)
                       | (have hfw:Kz c w=true:=by
                            rw[hfn1]; clear hS hw hfr hnm hre hd1 hd2 hnw hfm hfe hlm hcn hcm hne hbn1; simp_all
                          have hbw:Kq c w=0:=by
                            rw[hbn1]; clear hS hw hfr hnm hre hd1 hd2 hnw hfm hfe hlm hcn hcm hne hfn1 hfw; simp_all
                          exact mtN true ⟨hbw,by rw[hfw,fE],hS⟩)
                 · intro c71;refine Oc ?_;refine Oy (dj:=80) rfl rfl true false rfl ?_ ?_
                   · intro g80;have g80:=of_decide_eq_true g80;refine b3 ?_;refine Ok ?_ ?_
                     · intro c71;refine cj ?_;have hfn1:=KP (w:=w) hcm;have hbn1:=KI hcm hne
                       first
                         | (exfalso; omega)
                         | (have hfw:Kz c w=false:=by
                              rw[hfn1]; clear hS hw hfr hnm hre hd1 hd2 hnw hfm hfe hlm hcn hcm hne hbn1; simp_all
                            have hbw:Kq c w=0:=by
                              rw[hbn1]; clear hS hw hfr hnm hre hd1 hd2 hnw hfm hfe hlm hcn hcm hne hfn1 hfw; simp_all
                            exact mtN eb ⟨hbw,by rw[hfw,fA],hS⟩)
                         | (have hfw:Kz c w=true:=by
                              rw[hfn1]; clear hS hw hfr hnm hre hd1 hd2 hnw hfm hfe hlm hcn hcm hne hbn1; simp_all
                            have hbw:Kq c w=0:=by
                              rw[hbn1]; clear hS hw hfr hnm hre hd1 hd2 hnw hfm hfe hlm hcn hcm hne hfn1 hfw; simp_all
                            exact mtN true ⟨hbw,by rw[hfw,fE],hS⟩)
                     · intro c71;refine dG ?_;have hfn1:=KP (w:=w) hcm;have hbn1:=KI hcm hne
                       first
                         | (exfalso; omega)
                         | (have hfw:Kz c w=false:=by
                              rw[hfn1]; clear hS hw hfr hnm hre hd1 hd2 hnw hfm hfe hlm hcn hcm hne hbn1; simp_all
                            have hbw:Kq c w=0:=by
                              rw[hbn1]; clear hS hw hfr hnm hre hd1 hd2 hnw hfm hfe hlm hcn hcm hne hfn1 hfw; simp_all
                            exact mtN eb ⟨hbw,by rw[hfw,fA],hS⟩)
                         | (have hfw:Kz c w=true:=by
                              rw[hfn1]; clear hS hw hfr hnm hre hd1 hd2 hnw hfm hfe hlm hcn hcm hne hbn1; simp_all
                            have hbw:Kq c w=0:=by
                              rw[hbn1]; clear hS hw hfr hnm hre hd1 hd2 hnw hfm hfe hlm hcn hcm hne hfn1 hfw; simp_all
                            exact mtN true ⟨hbw,by rw[hfw,fE],hS⟩)
                   · intro g80;have g80:=of_decide_eq_false g80;refine eA ?_;have hfn1:=KP (w:=w) hcm;have hbn1:=KI hcm hne
                     first
                       | (exfalso; omega)
                       | (have hfw:Kz c w=false:=by
                            rw[hfn1]; clear hS hw hfr hnm hre hd1 hd2 hnw hfm hfe hlm hcn hcm hne hbn1; simp_all
                          have hbw:Kq c w=0:=by
                            rw[hbn1]; clear hS hw hfr hnm hre hd1 hd2 hnw hfm hfe hlm hcn hcm hne hfn1 hfw; simp_all
                          exact mtN eb ⟨hbw,by rw[hfw,fA],hS⟩)
                       | (have hfw:Kz c w=true:=by
                            rw[hfn1]; clear hS hw hfr hnm hre hd1 hd2 hnw hfm hfe hlm hcn hcm hne hbn1; simp_all
                          have hbw:Kq c w=0:=by
                            rw[hbn1]; clear hS hw hfr hnm hre hd1 hd2 hnw hfm hfe hlm hcn hcm hne hfn1 hfw; simp_all
                          exact mtN true ⟨hbw,by rw[hfw,fE],hS⟩)
               · intro g74;have g74:=of_decide_eq_false g74;refine cX ?_;refine OP ?_;refine Oc ?_;refine Oy (dj:=80) rfl rfl true false rfl ?_ ?_
                 · intro g80;have g80:=of_decide_eq_true g80;refine b3 ?_;refine Ok ?_ ?_
                   · intro c71;refine cj ?_;have hfn1:=KP (w:=w) hcm;have hbn1:=KI hcm hne
                     first
                       | (exfalso; omega)
                       | (have hfw:Kz c w=false:=by
                            rw[hfn1]; clear hS hw hfr hnm hre hd1 hd2 hnw hfm hfe hlm hcn hcm hne hbn1; simp_all
                          have hbw:Kq c w=0:=by
                            rw[hbn1]; clear hS hw hfr hnm hre hd1 hd2 hnw hfm hfe hlm hcn hcm hne hfn1 hfw; simp_all
                          exact mtN eb ⟨hbw,by rw[hfw,fA],hS⟩)
                       | (have hfw:Kz c w=true:=by
                            rw[hfn1]; clear hS hw hfr hnm hre hd1 hd2 hnw hfm hfe hlm hcn hcm hne hbn1; simp_all
                          have hbw:Kq c w=0:=by
                            rw[hbn1]; clear hS hw hfr hnm hre hd1 hd2 hnw hfm hfe hlm hcn hcm hne hfn1 hfw; simp_all
                          exact mtN true ⟨hbw,by rw[hfw,fE],hS⟩)
                   · intro c71;refine dG ?_;have hfn1:=KP (w:=w) hcm;have hbn1:=KI hcm hne
                     first
                       | (exfalso; omega)
                       | (have hfw:Kz c w=false:=by
                            rw[hfn1]; clear hS hw hfr hnm hre hd1 hd2 hnw hfm hfe hlm hcn hcm hne hbn1; simp_all
                          have hbw:Kq c w=0:=by
                            rw[hbn1]; clear hS hw hfr hnm hre hd1 hd2 hnw hfm hfe hlm hcn hcm hne hfn1 hfw; simp_all
                          exact mtN eb ⟨hbw,by rw[hfw,fA],hS⟩)
                       | (have hfw:Kz c w=true:=by
                            rw[hfn1]; clear hS hw hfr hnm hre hd1 hd2 hnw hfm hfe hlm hcn hcm hne hbn1; simp_all
                          have hbw:Kq c w=0:=by
                            rw[hbn1]; clear hS hw hfr hnm hre hd1 hd2 hnw hfm hfe hlm hcn hcm hne hfn1 hfw; simp_all
                          exact mtN true ⟨hbw,by rw[hfw,fE],hS⟩)
                 · intro g80;have g80:=of_decide_eq_false g80;refine eA ?_;have hfn1:=KP (w:=w) hcm;have hbn1:=KI hcm hne
                   first
                     | (exfalso; omega)
                     | (have hfw:Kz c w=false:=by
                          rw[hfn1]; clear hS hw hfr hnm hre hd1 hd2 hnw hfm hfe hlm hcn hcm hne hbn1; simp_all
                        have hbw:Kq c w=0:=by
                          rw[hbn1]; clear hS hw hfr hnm hre hd1 hd2 hnw hfm hfe hlm hcn hcm hne hfn1 hfw; simp_all
                        exact mtN eb ⟨hbw,by rw[hfw,fA],hS⟩)
                     | (have hfw:Kz c w=true:=by
                          rw[hfn1]; clear hS hw hfr hnm hre hd1 hd2 hnw hfm hfe hlm hcn hcm hne hbn1; simp_all
                        have hbw:Kq c w=0:=by
                          rw[hbn1]; clear hS hw hfr hnm hre hd1 hd2 hnw hfm hfe hlm hcn hcm hne hfn1 hfw; simp_all
                        exact mtN true ⟨hbw,by rw[hfw,fE],hS⟩)
           · intro g67;have g67:=Qe g67;refine Oa [4,6,7,9,10,38,56,57,58,59,60,61,62,64,68,69] ?_;refine OP ?_;refine Oc ?_;refine Oy (dj:=74) rfl rfl true false rfl ?_ ?_
             · intro g74;have g74:=of_decide_eq_true g74;refine cX ?_;refine Ok ?_ ?_
               · intro c71;refine OB ?_;refine Od ?_;refine Ok ?_ ?_
                 · intro c71;refine cj ?_;have hfn1:=KP (w:=w) hcm;have hbn1:=KI hcm hne
                   first
                     | (exfalso; omega)
                     | (have hfw:Kz c w=false:=by
                          rw[hfn1]; clear hS hw hfr hnm hre hd1 hd2 hnw hfm hfe hlm hcn hcm hne hbn1; simp_all
                        have hbw:Kq c w=0:=by
                          rw[hbn1]; clear hS hw hfr hnm hre hd1 hd2 hnw hfm hfe hlm hcn hcm hne hfn1 hfw; simp_all
                        exact mtN eb ⟨hbw,by rw[hfw,fA],hS⟩)
                     | (have hfw:Kz c w=true:=by
                          rw[hfn1]; clear hS hw hfr hnm hre hd1 hd2 hnw hfm hfe hlm hcn hcm hne hbn1; simp_all
                        have hbw:Kq c w=0:=by
                          rw[hbn1]; clear hS hw hfr hnm hre hd1 hd2 hnw hfm hfe hlm hcn hcm hne hfn1 hfw; simp_all
                        exact mtN true ⟨hbw,by rw[hfw,fE],hS⟩)
                 · intro c71;refine dG ?_;have hfn1:=KP (w:=w) hcm;have hbn1:=KI hcm hne
                   first
                     | (exfalso; omega)
                     | (have hfw:Kz c w=false:=by
                          rw[hfn1]; clear hS hw hfr hnm hre hd1 hd2 hnw hfm hfe hlm hcn hcm hne hbn1; simp_all
                        have hbw:Kq c w=0:=by
                          rw[hbn1]; clear hS hw hfr hnm hre hd1 hd2 hnw hfm hfe hlm hcn hcm hne hfn1 hfw; simp_all
                        exact mtN eb ⟨hbw,by rw[hfw,fA],hS⟩)
                     | (have hfw:Kz c w=true:=by
                          rw[hfn1]; clear hS hw hfr hnm hre hd1 hd2 hnw hfm hfe hlm hcn hcm hne hbn1; simp_all
                        have hbw:Kq c w=0:=by
                          rw[hbn1]; clear hS hw hfr hnm hre hd1 hd2 hnw hfm hfe hlm hcn hcm hne hfn1 hfw; simp_all
                        exact mtN true ⟨hbw,by rw[hfw,fE],hS⟩)
               · intro c71;refine Oc ?_;refine Oy (dj:=80) rfl rfl true false rfl ?_ ?_
                 · intro g80;have g80:=of_decide_eq_true g80;refine b3 ?_;refine Ok ?_ ?_
                   · intro c71;refine cj ?_;have hfn1:=KP (w:=w) hcm;have hbn1:=KI hcm hne
                     first
                       | (exfalso; omega)
                       | (have hfw:Kz c w=false:=by
                            rw[hfn1]; clear hS hw hfr hnm hre hd1 hd2 hnw hfm hfe hlm hcn hcm hne hbn1; simp_all
                          have hbw:Kq c w=0:=by
                            rw[hbn1]; clear hS hw hfr hnm hre hd1 hd2 hnw hfm hfe hlm hcn hcm hne hfn1 hfw; simp_all
                          exact mtN eb ⟨hbw,by rw[hfw,fA],hS⟩)
                       | (have hfw:Kz c w=true:=by
                            rw[hfn1]; clear hS hw hfr hnm hre hd1 hd2 hnw hfm hfe hlm hcn hcm hne hbn1; simp_all
                          have hbw:Kq c w=0:=by
                            rw[hbn1]; clear hS hw hfr hnm hre hd1 hd2 hnw hfm hfe hlm hcn hcm hne hfn1 hfw; simp_all
                          exact mtN true ⟨hbw,by rw[hfw,fE],hS⟩)
                   · intro c71;refine dG ?_;have hfn1:=KP (w:=w) hcm;have hbn1:=KI hcm hne
                     first
                       | (exfalso; omega)
                       | (have hfw:Kz c w=false:=by
                            rw[hfn1]; clear hS hw hfr hnm hre hd1 hd2 hnw hfm hfe hlm hcn hcm hne hbn1; simp_all
                          have hbw:Kq c w=0:=by
                            rw[hbn1]; clear hS hw hfr hnm hre hd1 hd2 hnw hfm hfe hlm hcn hcm hne hfn1 hfw; simp_all
                          exact mtN eb ⟨hbw,by rw[hfw,fA],hS⟩)
                       | (have hfw:Kz c w=true:=by
                            rw[hfn1]; clear hS hw hfr hnm hre hd1 hd2 hnw hfm hfe hlm hcn hcm hne hbn1; simp_all
                          have hbw:Kq c w=0:=by
                            rw[hbn1]; clear hS hw hfr hnm hre hd1 hd2 hnw hfm hfe hlm hcn hcm hne hfn1 hfw; simp_all
                          exact mtN true ⟨hbw,by rw[hfw,fE],hS⟩)
                 · intro g80;have g80:=of_decide_eq_false g80;refine eA ?_;have hfn1:=KP (w:=w) hcm;have hbn1:=KI hcm hne
                   first
                     | (exfalso; omega)
                     | (have hfw:Kz c w=false:=by
                          rw[hfn1]; clear hS hw hfr hnm hre hd1 hd2 hnw hfm hfe hlm hcn hcm hne hbn1; simp_all
                        have hbw:Kq c w=0:=by
                          rw[hbn1]; clear hS hw hfr hnm hre hd1 hd2 hnw hfm hfe hlm hcn hcm hne hfn1 hfw; simp_all
                        exact mtN eb ⟨hbw,by rw[hfw,fA],hS⟩)
                     | (have hfw:Kz c w=true:=by
                          rw[hfn1]; clear hS hw hfr hnm hre hd1 hd2 hnw hfm hfe hlm hcn hcm hne hbn1; simp_all
                        have hbw:Kq c w=0:=by
                          rw[hbn1]; clear hS hw hfr hnm hre hd1 hd2 hnw hfm hfe hlm hcn hcm hne hfn1 hfw; simp_all
                        exact mtN true ⟨hbw,by rw[hfw,fE],hS⟩)
             · intro g74;have g74:=of_decide_eq_false g74;refine cX ?_;refine OP ?_;refine Oc ?_;refine Oy (dj:=80) rfl rfl true false rfl ?_ ?_
               · intro g80;have g80:=of_decide_eq_true g80;refine b3 ?_;refine Ok ?_ ?_
                 · intro c71;refine cj ?_;have hfn1:=KP (w:=w) hcm;have hbn1:=KI hcm hne
                   first
                     | (exfalso; omega)
                     | (have hfw:Kz c w=false:=by
                          rw[hfn1]; clear hS hw hfr hnm hre hd1 hd2 hnw hfm hfe hlm hcn hcm hne hbn1; simp_all
                        have hbw:Kq c w=0:=by
                          rw[hbn1]; clear hS hw hfr hnm hre hd1 hd2 hnw hfm hfe hlm hcn hcm hne hfn1 hfw; simp_all
                        exact mtN eb ⟨hbw,by rw[hfw,fA],hS⟩)
                     | (have hfw:Kz c w=true:=by
                          rw[hfn1]; clear hS hw hfr hnm hre hd1 hd2 hnw hfm hfe hlm hcn hcm hne hbn1; simp_all
                        have hbw:Kq c w=0:=by
                          rw[hbn1]; clear hS hw hfr hnm hre hd1 hd2 hnw hfm hfe hlm hcn hcm hne hfn1 hfw; simp_all
                        exact mtN true ⟨hbw,by rw[hfw,fE],hS⟩)
                 · intro c71;refine dG ?_;have hfn1:=KP (w:=w) hcm;have hbn1:=KI hcm hne
                   first
                     | (exfalso; omega)
                     | (have hfw:Kz c w=false:=by
                          rw[hfn1]; clear hS hw hfr hnm hre hd1 hd2 hnw hfm hfe hlm hcn hcm hne hbn1; simp_all
                        have hbw:Kq c w=0:=by
                          rw[hbn1]; clear hS hw hfr hnm hre hd1 hd2 hnw hfm hfe hlm hcn hcm hne hfn1 hfw; simp_all
                        exact mtN eb ⟨hbw,by rw[hfw,fA],hS⟩)
                     | (have hfw:Kz c w=true:=by
                          rw[hfn1]; clear hS hw hfr hnm hre hd1 hd2 hnw hfm hfe hlm hcn hcm hne hbn1; simp_all
                        have hbw:Kq c w=0:=by
                          rw[hbn1]; clear hS hw hfr hnm hre hd1 hd2 hnw hfm hfe hlm hcn hcm hne hfn1 hfw; simp_all
                        exact mtN true ⟨hbw,by rw[hfw,fE],hS⟩)
               · intro g80;have g80:=of_decide_eq_false g80;refine eA ?_;have hfn1:=KP (w:=w) hcm;have hbn1:=KI hcm hne
                 first
                   | (exfalso; omega)
                   | (have hfw:Kz c w=false:=by
                        rw[hfn1]; clear hS hw hfr hnm hre hd1 hd2 hnw hfm hfe hlm hcn hcm hne hbn1; simp_all
                      have hbw:Kq c w=0:=by
                        rw[hbn1]; clear hS hw hfr hnm hre hd1 hd2 hnw hfm hfe hlm hcn hcm hne hfn1 hfw; simp_all
                      exact mtN eb ⟨hbw,by rw[hfw,fA],hS⟩)
                   | (have hfw:Kz c w=true:=by
                        rw[hfn1]; clear hS hw hfr hnm hre hd1 hd2 hnw hfm hfe hlm hcn hcm hne hbn1; simp_all
                      have hbw:Kq c w=0:=by
                        rw[hbn1]; clear hS hw hfr hnm hre hd1 hd2 hnw hfm hfe hlm hcn hcm hne hfn1 hfw; simp_all
                      exact mtN true ⟨hbw,by rw[hfw,fE],hS⟩)
       ·
         rintro y h3 ⟨hbad,hyy,hS⟩;refine Oa [4,6,7,10,38,85] ?_;refine O3 ?_ ?_;intro c85;refine cj ?_;have hc9:c≠119:=fun e=>c85 (by rw[e]; rfl)
         have hnum:K6 w 3=true:=by
           rw[Kq,if_neg hc9] at hbad;by_cases q:K6 w 3=true;exact q;rw[if_neg q] at hbad; cases hbad
         rw[KZ,if_pos hbad] at hw;rw[Xx,←Bool.or_assoc,←hyy] at hfr;rw[Vy,if_neg hc9] at hnm;exact KB (p+1,y,K9 w) (by repeat (first|exact Sub.nil _|refine Sub.cons Look.eq ?_|refine Sub.cons (Eq.trans Look.eq (congrArg (AV.int _) aK)) ?_|refine Sub.cons (Eq.trans Look.eq (by rw[if_pos hnum])) ?_)) ⟨hlt,hw,hfr,hnm,hS⟩ aL;intro c85;refine dG ?_;have hc9:c=119:=hcn.1.1 aB;rw[KZ,if_pos hbad] at hw;rw[Xx,←Bool.or_assoc,←hyy] at hfr;rw[Vy,if_pos hc9] at hnm;exact lpN (p+1,y,n) ⟨hlt,hw,hfr,hnm,hS⟩ aL
      intro np;refine eB ?_;refine OP ?_;refine bh ?_;refine Oo [4,6,7] ?_;refine Oa [4,6,7,88] ?_;refine O3 ?_ ?_;intro c88;refine cM ?_;have hpe:p=f.length:=by rw[wd_size] at np; omega
      subst hpe;rw[fB] at hw hfr hnm;simp only[KZ,Xx,fA,Vy] at hw hfr hnm;have hq:KG l=1:=by
       cases eb;exact absurd rfl c88;rw[hre,hw,hfr]; simp
      rw[show(if eb=true then (1:Int) else 0)=1 by cases eb; exact absurd rfl c88; rfl];exact⟨⟨_,rfl,by rw[hq],fun h0=>by rw[hq] at h0; cases h0⟩,hS.keeps⟩;intro c88;refine On [4,6] ?_;refine Oc ?_;refine Oj rfl (told_c (hS.rd 1 rfl) (by rw[hfe]; exact hfl) (by rw[hfe]; exact hfn)) ?_;rintro _ _ ⟨rfl,rfl⟩;refine cM ?_;have hpe:p=f.length:=by rw[wd_size] at np; omega
      subst hpe;rw[fB] at hw hfr hnm;simp only[KZ,Xx,fA,Vy] at hw hfr hnm;have hq:KG l=0:=by
       cases eb;rw[hre,hw,hfr]; simp;rw[if_pos rfl] at c88; cases c88
      refine⟨⟨_,tellV_one (QC (OH 32 l) n),by rw[hq],fun _=>?_⟩,hS.keeps⟩;unfold QF;simp only[hfe,hnm]
  intro g19;have g19:=of_decide_eq_true g19;refine Oa [4,22] ?_;refine Kw ?_;refine cM ?_;have hq:KG l=9:=by
   unfold KG; simp only[]; rw[if_neg aB,if_pos (.inl g19)]
  exact⟨⟨_,rfl,by rw[hq],fun h0=>by rw[hq] at h0; cases h0⟩,hS.keeps⟩
end Go.Am
