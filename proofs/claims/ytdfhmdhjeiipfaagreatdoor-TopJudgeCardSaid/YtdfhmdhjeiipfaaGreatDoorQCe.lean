/-
  Tops: turned from layer 14: Ce.
  Conditions: none.
-/
import Derived.Test.YtdfhmdhjeiipfaaGreatDoorQCd
open Bool renaming or_false → dO, or_true → dU
open List renaming getD_eq_getElem?_getD → dY, getElem?_eq_getElem → dP, length_cons → dQ, getElem_mem → dR, drop_length → dS, nil_append → dT
set_option maxRecDepth 99999
set_option maxHeartbeats 4000000
namespace Go.Am
theorem SK (c:UInt8):∀ (l:Str) (w:Str),w∈Kf c l→w.length≤l.length:=by
 intro l
 induction l with
 | nil=>intro w hw; simp[Kf] at hw; subst hw; exact Nat.le_refl _
 | cons a l ih=>
  intro w hw;simp only[Kf] at hw;split at hw;rcases List.mem_cons.1 hw with rfl|hw
  exact Nat.zero_le _;have:=ih w hw; rw[dQ]; omega;split at hw;rename_i x xs he;rcases List.mem_cons.1 hw with rfl|hw
  have:=ih x (by rw[he]; exact List.mem_cons_self);rw[dQ,dQ]; omega;have:=ih w (by rw[he]; exact List.mem_cons_of_mem _ hw); rw[dQ]; omega;simp at hw; subst hw; simp
theorem splitC_len (c:UInt8):∀ l:Str,(Kf c l).length≤l.length+1:=by
 intro l
 induction l with
 | nil=>simp[Kf]
 | cons a l ih=>
  simp only[Kf];split;simp; omega;split;rename_i x xs he; rw[he] at ih; simp at ih⊢; omega;simp
theorem formL_mem (k:Str):∀ c∈O3 k,c=119∨c=110∨c=112:=by
 intro c hc;unfold O3 at hc;split at hc;simp at hc; simp[hc];split at hc;simp at hc; simp[hc];split at hc;simp at hc; rcases hc with rfl|rfl <;> simp
 split at hc;simp at hc; rcases hc with rfl|rfl <;> simp
 split at hc;simp at hc; simp[hc];cases hc
theorem Tg (k:Str):(O3 k).length≤3:=by
 unfold O3;split;decide;split;decide;split;decide;split;decide;split <;> decide
theorem drop_at {α:Type} [Inhabited α] {l:List α} {p:Nat} {d : α} (h:p<l.length):l.drop p=l.getD p d::l.drop (p+1):=by
 rw[List.drop_eq_getElem_cons h,dY,dP h,Option.getD_some]
theorem getD_drop1 (l:List Str) (p:Nat):(l.drop 1).getD p []=l.getD (p+1) []:=by
 rw[dY,List.getElem?_drop,dY,Nat.add_comm]
theorem getD_small {c:UInt8} {l:Str} {p:Nat}:((Kf c l).getD p []).length≤l.length:=by
 rw[dY];by_cases h:p<(Kf c l).length;rw[dP h]; exact SK c l _ (dR h);rw[List.getElem?_eq_none aA]; exact Nat.zero_le _
theorem isName_of {w:Str} (h:w≠[]):isName w=UB w:=by
 unfold isName UB;rw[decide_eq_true h,Bool.true_and]
theorem Kw {c:UInt8} {w:Str} (hcm:c=119∨c=110∨c=112):Kr c w=((decide ((c.toNat:Int)=112) && decide (Z0 w=0)) || (decide ((c.toNat:Int)=110) && decide (99<Z0 w))):=by
 unfold Kr;rcases hcm with q|q|q <;> subst q <;> rfl
theorem Kn {c:UInt8} {w:Str} (hcm:c=119∨c=110∨c=112) (hne:w≠[]):Kj c w=if (c.toNat:Int)=119 then (if UB w then 0 else 10) else if Qm w 3 then 0 else 9:=by
 unfold Kj;rw[isName_of hne];rcases hcm with q|q|q <;> subst q <;> rfl
theorem tellV_one (t:Tell):(KL t).one=true:=by cases t <;> rfl
structure Vs (h:AHeap):Prop where
  mx:Mx h
  pw:Pow h
theorem Vs.ext {h h':AHeap} (z:Vs h) (k:Keeps h h'):Vs h':=⟨z.mx.ext k,z.pw.ext k⟩
theorem read_c {h:AHeap} {l:Str} (hM:Mx h) (hl:l.length≤1000000):ACalls Go.Proofs.Tryz.prog 92 [.str (wdQ l)] h (fun q h'=>(∃ v,v.one=true∧q = .tup [v,.int .i64 (Ky l)]∧(Ky l=0→v=KL (K4 l)))∧Keeps h h'):=by
 refine OK 93 [.tmp 2,.tmp 3] Go.Proofs.Tryz.func92 rfl aE rfl rfl (Nat.le_of_ble_eq_true rfl) ?_;have hS:=St.refl h;show KA _ 93 _ _ [(0,.str (wdQ l))] _;refine Oa [0] ?_;refine Oa [0,14] ?_;refine On ?_ ?_;intro c14;refine cA ?_;have hq:Ky l=19:=by
  unfold Ky; rw[if_pos aA]
 exact⟨⟨_,rfl,by rw[hq],fun h0=>by rw[hq] at h0; cases h0⟩,hS.keeps⟩
 ·intro c14;refine OD [0] ?_;refine Oc ?_;refine Oo rfl (split_c hM hl) ?_;rintro v16 h16 ⟨hsl,hS16⟩;replace hS:St _ _ (_::_):=St.trans hS hS16;refine Oa [0,4] ?_;refine bt ?_;have hln:=splitC_len 32 l;have hlm:=@getD_small 32 l;have hl0:=List.length_pos_iff.2 (splitC_ne 32 l);refine Oe ?_;refine Oo rfl (YC (hS.rd 0 rfl) aA) ?_;rintro _ _ ⟨rfl,rfl⟩;refine Oe ?_;refine Ov (dj:=19) rfl rfl false true rfl ?_ ?_
  ·intro g19;have g19:=of_decide_eq_false g19;refine Oc ?_;refine Oo rfl (TF hl) ?_;rintro _ hx ⟨rfl,hK⟩;replace hS:St _ _ _:=St.trans hS (St.ofK hK);simp only[dT] at hS;refine Oa [4,22] ?_;refine Kz ?_ ?_;intro c22;refine cA ?_;have hq:Ky l=9:=by
    unfold Ky; simp only[]; rw[if_neg aA,if_pos (.inr (show l.any VX=true from c22))]
   exact⟨⟨_,rfl,by rw[hq],fun h0=>by rw[hq] at h0; cases h0⟩,hS.keeps⟩
   ·intro c22;refine OD [4] ?_;refine Oc ?_;refine Oy (hS.rd 0 rfl) (j:=0) rfl aC ?_;intro p24 hp24;refine KO hp24 (hS.rd 0 rfl) aC ?_;refine Oo rfl (form_c) ?_;rintro _ _ ⟨rfl,rfl⟩;refine Oa [4,5] ?_;refine bj ?_;refine Oa [4,5,27] ?_;refine On ?_ ?_;intro c27;refine cA ?_;have hq:Ky l=8:=by
     unfold Ky; simp only[]; rw[if_neg aA,if_neg aj,if_pos c27]
    exact⟨⟨_,rfl,by rw[hq],fun h0=>by rw[hq] at h0; cases h0⟩,hS.keeps⟩
    ·intro c27;refine Ot ?_;have hf3:=Tg ((Kf 32 l).getD 0 []);refine Oe ?_;refine Kv (hS.rd 0 rfl) ?_;refine Oa [4,5,30] ?_;refine Kk ?_ ?_;intro c30;refine cA ?_;have hq:Ky l=5:=by
      unfold Ky; simp only[]; rw[if_neg aA,if_neg aj,if_neg c27,if_pos aA]
     exact⟨⟨_,rfl,by rw[hq],fun h0=>by rw[hq] at h0; cases h0⟩,hS.keeps⟩
     ·intro c30;refine bd ?_;refine Ow [4,5] ?_;refine Ot ?_;obtain⟨hfn,hfl⟩:O3 ((Kf 32 l).getD 0 [])≠[]∧(Kf 32 l).length=(O3 ((Kf 32 l).getD 0 [])).length+1:=⟨c27,by omega⟩;have hf3:=Tg ((Kf 32 l).getD 0 []);have hfm:=formL_mem ((Kf 32 l).getD 0 []);generalize hfe:O3 ((Kf 32 l).getD 0 [])=f at *;have hre:Ky l=if QT f ((Kf 32 l).drop 1)≠0 then QT f ((Kf 32 l).drop 1) else if VY f ((Kf 32 l).drop 1) then 1 else 0:=by
       unfold Ky;simp only[hfe];rw[if_neg aA,if_neg (by intro h; rcases h with h|h; exact g19 h; rw[show(fun c:UInt8=>decide (c.toNat<32∨126<c.toNat))=VX from rfl] at h; simp[h] at c22),if_neg hfn,if_neg aA]
      have hnw:∀ p,p<f.length→(Kf 32 l).getD (p+1) []≠[]:=by
       intro p hp he;refine g19 ?_;rw[dY,dP (show p+1<(Kf 32 l).length by omega),Option.getD_some] at he;rw[←he];exact dR _
      refine bX ?_;refine Od ?_;refine Oc ?_;refine KOps.range hS rfl ?_;intro v38 h' hv38 hS;refine Oj [4,6,7,38] ?_;refine Oz ?_;refine Kd (X:=Nat × Bool × Int) (fun x=>[(4,v16),(6,.int .i64 x.2.2),(7,.int .i64 (if x.2.1 then 1 else 0)),(38,v38)]) (fun x h'=>x.1≤f.length∧QT f ((Kf 32 l).drop 1)=QT (f.drop x.1) (((Kf 32 l).drop 1).drop x.1)∧VY f ((Kf 32 l).drop 1)=(x.2.1 || VY (f.drop x.1) (((Kf 32 l).drop 1).drop x.1))∧V3 f ((Kf 32 l).drop 1) 0=V3 (f.drop x.1) (((Kf 32 l).drop 1).drop x.1) x.2.2∧St h h' [walkO v38 (wdQ f) x.1,⟨v16,1,wcsQ (Kf 32 l),true⟩]) (fun x=>f.length - x.1) (0,false,0) ?_ ?_;exact⟨Nat.zero_le _,rfl,by simp,rfl,hS⟩;rintro⟨p,eb,n⟩ h2 ⟨hp,hw,hfr,hnm,hS⟩;dsimp only at hp hw hfr hnm hS⊢;refine Ot ?_;refine KOps.next hS hv38 (i:=0) rfl rfl ?_ ?_
      ·intro np h' hS;simp only[List.set_cons_zero,List.set_cons_succ,Nat.zero_add] at hS;have hlt:p<f.length:=by rw[wd_size] at np; exact np
       have hcm:=hfm (f.getD p 0) (by rw[dY,dP hlt,Option.getD_some]; exact dR hlt);have hc8:(f.getD p 0).toNat<128:=by rcases hcm with q|q|q <;> rw[q] <;> decide
       simp only[YX hlt hc8] at hS⊢;have hd1:=drop_at (d:=(0:UInt8)) hlt;have hd2:=drop_at (l:=(Kf 32 l).drop 1) (p:=p) (d:=([]:Str)) (by rw[List.length_drop]; omega);rw[getD_drop1] at hd2;rw[hd1,hd2] at hw hfr hnm;have hne:=hnw p hlt;generalize hce:f.getD p 0=c at *;obtain⟨w,hwe⟩:∃ w,(Kf 32 l).getD (p+1) []=w:=⟨_,rfl⟩;rw[hwe] at hne hw hfr hnm;have hwl:w.length≤1000000:=by have:=hlm (p:=p+1); rw[hwe] at this; omega
       have hcn:(c.toNat=119↔c=119)∧(c.toNat=110↔c=110)∧(c.toNat=112↔c=112):=by
        rcases hcm with q|q|q <;> rw[q] <;> decide
       refine dB ?_;refine KW ?_;refine OD [4,6,7,38,39] ?_;refine Oz ?_;refine Oa [4,6,7,8,9,38] ?_;refine Oc ?_;refine Oy (hS.rd 1 rfl) (j:=_) rfl aC ?_;intro p47 hp47;refine KO hp47 (hS.rd 1 rfl) aC ?_;rw[hwe];refine Oo rfl (number_c (m:=3) aE hwl) ?_;rintro _ hx ⟨rfl,hK⟩;replace hS:St _ _ _:=St.trans hS (St.ofK hK);simp only[dT] at hS;refine Oa [4,6,7,8,9,10,11,38] ?_;refine KA.meet (X:=Bool) (fun y=>[(4,v16),(6,.int .i64 n),(7,.int .i64 (if y then 1 else 0)),(9,.int .i32 (c.toNat:Int)),(10,.int .i64 (if Qm w 3 then Z0 w else 0)),(38,v38)]) (fun y h'=>Kj c w=0∧y=(eb || Kr c w)∧St h h' [walkO v38 (wdQ f) (p+1),⟨v16,1,wcsQ (Kf 32 l),true⟩]) ?_ ?_
       ·
         refine Oz ?_;refine Oc ?_;refine Ov (dj:=55) rfl rfl true false rfl ?_ ?_
         · intro g55;have g55:=of_decide_eq_true g55;refine Oc ?_;refine Oy (hS.rd 1 rfl) (j:=_) rfl aC ?_;intro p59 hp59;refine Oh (dj:=55) rfl rfl ?_;refine KO hp59 (hS.rd 1 rfl) aC ?_;rw[hwe];refine Oh (dj:=55) rfl rfl ?_;refine Oo rfl (named_c hwl) ?_;rintro _ _ ⟨rfl,rfl⟩;refine Oa [4,6,7,9,10,11,38,52,56,57,58,59,60,61,62] ?_;refine Kz ?_ ?_;intro c52;refine Oa [2,3] ?_;refine Ke ?_;refine QC ?_;refine mtQ.ret ?_;refine Oi ?_;have hb0:Kj c w=10:=by
             rw[Kn hcm hne];clear hS hw hfr hnm hre hd1 hd2 hnw hfm hfe hlm hcn hcm hne;simp_all
           have hw0:QT f ((Kf 32 l).drop 1)=10:=by
             rw[hw,QT,if_neg (by rw[hb0]; decide),hb0]
           have hq:Ky l=10:=by
             rw[hre,hw0,if_pos aE]
           exact⟨⟨_,rfl,by rw[hq],fun h0=>by rw[hq] at h0; cases h0⟩,hS.keeps⟩
           · intro c52;refine Oc ?_;refine Ov (dj:=67) rfl rfl true false rfl ?_ ?_
             · intro g67;have g67:=Zb g67;refine Oa [4,6,7,9,10,38,56,57,58,59,60,61,62,64,68,69] ?_;refine Kz ?_ ?_;intro c64;refine Oa [2,3] ?_;refine Ke ?_;refine QC ?_;refine mtQ.ret ?_;refine Oi ?_;have hb0:Kj c w=9:=by
                 rw[Kn hcm hne];clear hS hw hfr hnm hre hd1 hd2 hnw hfm hfe hlm hcn hcm hne;simp_all
               have hw0:QT f ((Kf 32 l).drop 1)=9:=by
                 rw[hw,QT,if_neg (by rw[hb0]; decide),hb0]
               have hq:Ky l=9:=by
                 rw[hre,hw0,if_pos aE]
               exact⟨⟨_,rfl,by rw[hq],fun h0=>by rw[hq] at h0; cases h0⟩,hS.keeps⟩
               · intro c64;refine Oc ?_;refine Ov (dj:=74) rfl rfl true false rfl ?_ ?_
                 · intro g74;have g74:=of_decide_eq_true g74;refine b8 ?_;refine On ?_ ?_
                   · intro c71;refine OC ?_;refine Od ?_;refine On ?_ ?_
                     · intro c71;refine ce ?_;have hfn1:=Kw (w:=w) hcm;have hbn1:=Kn hcm hne
                       first
                         | (exfalso; omega)
                         | (have hfw:Kr c w=false:=by
                              rw[hfn1]; clear hS hw hfr hnm hre hd1 hd2 hnw hfm hfe hlm hcn hcm hne hbn1; simp_all
                            have hbw:Kj c w=0:=by
                              rw[hbn1]; clear hS hw hfr hnm hre hd1 hd2 hnw hfm hfe hlm hcn hcm hne hfn1 hfw; simp_all
                            exact mtN eb ⟨hbw,by rw[hfw,dO],hS⟩)
                         | (have hfw:Kr c w=true:=by
                              rw[hfn1]; clear hS hw hfr hnm hre hd1 hd2 hnw hfm hfe hlm hcn hcm hne hbn1; simp_all
                            have hbw:Kj c w=0:=by
                              rw[hbn1]; clear hS hw hfr hnm hre hd1 hd2 hnw hfm hfe hlm hcn hcm hne hfn1 hfw; simp_all
                            exact mtN true ⟨hbw,by rw[hfw,dU],hS⟩)
                     · intro c71;refine cG ?_;have hfn1:=Kw (w:=w) hcm;have hbn1:=Kn hcm hne
                       first
                         | (exfalso; omega)
                         | (have hfw:Kr c w=false:=by
                              rw[hfn1]; clear hS hw hfr hnm hre hd1 hd2 hnw hfm hfe hlm hcn hcm hne hbn1; simp_all
                            have hbw:Kj c w=0:=by
                              rw[hbn1]; clear hS hw hfr hnm hre hd1 hd2 hnw hfm hfe hlm hcn hcm hne hfn1 hfw; simp_all
                            exact mtN eb ⟨hbw,by rw[hfw,dO],hS⟩)
                         | (have hfw:Kr c w=true:=by
                              rw[hfn1]; clear hS hw hfr hnm hre hd1 hd2 hnw hfm hfe hlm hcn hcm hne hbn1; simp_all
                            have hbw:Kj c w=0:=by
                              rw[hbn1]; clear hS hw hfr hnm hre hd1 hd2 hnw hfm hfe hlm hcn hcm hne hfn1 hfw; simp_all
                            exact mtN true ⟨hbw,by rw[hfw,dU],hS⟩)
                   · intro c71;refine Oc ?_;refine Ov (dj:=80) rfl rfl true false rfl ?_ ?_
                     · intro g80;have g80:=of_decide_eq_true g80;refine bc ?_;refine On ?_ ?_
                       · intro c71;refine ce ?_;have hfn1:=Kw (w:=w) hcm;have hbn1:=Kn hcm hne
                         first
                           | (exfalso; omega)
                           | (have hfw:Kr c w=false:=by
                                rw[hfn1]; clear hS hw hfr hnm hre hd1 hd2 hnw hfm hfe hlm hcn hcm hne hbn1; simp_all
                              have hbw:Kj c w=0:=by
                                rw[hbn1]; clear hS hw hfr hnm hre hd1 hd2 hnw hfm hfe hlm hcn hcm hne hfn1 hfw; simp_all
                              exact mtN eb ⟨hbw,by rw[hfw,dO],hS⟩)
                           | (have hfw:Kr c w=true:=by
                                rw[hfn1]; clear hS hw hfr hnm hre hd1 hd2 hnw hfm hfe hlm hcn hcm hne hbn1; simp_all
                              have hbw:Kj c w=0:=by
                                rw[hbn1]; clear hS hw hfr hnm hre hd1 hd2 hnw hfm hfe hlm hcn hcm hne hfn1 hfw; simp_all
                              exact mtN true ⟨hbw,by rw[hfw,dU],hS⟩)
                       · intro c71;refine cG ?_;have hfn1:=Kw (w:=w) hcm;have hbn1:=Kn hcm hne
                         first
                           | (exfalso; omega)
                           | (have hfw:Kr c w=false:=by
                                rw[hfn1]; clear hS hw hfr hnm hre hd1 hd2 hnw hfm hfe hlm hcn hcm hne hbn1; simp_all
                              have hbw:Kj c w=0:=by
                                rw[hbn1]; clear hS hw hfr hnm hre hd1 hd2 hnw hfm hfe hlm hcn hcm hne hfn1 hfw; simp_all
                              exact mtN eb ⟨hbw,by rw[hfw,dO],hS⟩)
                           | (have hfw:Kr c w=true:=by
                                rw[hfn1]; clear hS hw hfr hnm hre hd1 hd2 hnw hfm hfe hlm hcn hcm hne hbn1; simp_all
                              have hbw:Kj c w=0:=by
                                rw[hbn1]; clear hS hw hfr hnm hre hd1 hd2 hnw hfm hfe hlm hcn hcm hne hfn1 hfw; simp_all
                              exact mtN true ⟨hbw,by rw[hfw,dU],hS⟩)
                     · intro g80;have g80:=of_decide_eq_false g80;refine cw ?_;have hfn1:=Kw (w:=w) hcm;have hbn1:=Kn hcm hne
                       first
                         | (exfalso; omega)
                         | (have hfw:Kr c w=false:=by
                              rw[hfn1]; clear hS hw hfr hnm hre hd1 hd2 hnw hfm hfe hlm hcn hcm hne hbn1; simp_all
                            have hbw:Kj c w=0:=by
                              rw[hbn1]; clear hS hw hfr hnm hre hd1 hd2 hnw hfm hfe hlm hcn hcm hne hfn1 hfw; simp_all
                            exact mtN eb ⟨hbw,by rw[hfw,dO],hS⟩)
                         | (have hfw:Kr c w=true:=by
                              rw[hfn1]; clear hS hw hfr hnm hre hd1 hd2 hnw hfm hfe hlm hcn hcm hne hbn1; simp_all
                            have hbw:Kj c w=0:=by
                              rw[hbn1]; clear hS hw hfr hnm hre hd1 hd2 hnw hfm hfe hlm hcn hcm hne hfn1 hfw; simp_all
                            exact mtN true ⟨hbw,by rw[hfw,dU],hS⟩)
                 · intro g74;have g74:=of_decide_eq_false g74;refine b8 ?_;refine OM ?_;refine Oc ?_;refine Ov (dj:=80) rfl rfl true false rfl ?_ ?_
                   · intro g80;have g80:=of_decide_eq_true g80;refine bc ?_;refine On ?_ ?_
                     · intro c71;refine ce ?_;have hfn1:=Kw (w:=w) hcm;have hbn1:=Kn hcm hne
                       first
                         | (exfalso; omega)
                         | (have hfw:Kr c w=false:=by
                              rw[hfn1]; clear hS hw hfr hnm hre hd1 hd2 hnw hfm hfe hlm hcn hcm hne hbn1; simp_all
                            have hbw:Kj c w=0:=by
                              rw[hbn1]; clear hS hw hfr hnm hre hd1 hd2 hnw hfm hfe hlm hcn hcm hne hfn1 hfw; simp_all
                            exact mtN eb ⟨hbw,by rw[hfw,dO],hS⟩)
                         | (have hfw:Kr c w=true:=by
                              rw[hfn1]; clear hS hw hfr hnm hre hd1 hd2 hnw hfm hfe hlm hcn hcm hne hbn1; simp_all
                            have hbw:Kj c w=0:=by
                              rw[hbn1]; clear hS hw hfr hnm hre hd1 hd2 hnw hfm hfe hlm hcn hcm hne hfn1 hfw; simp_all
                            exact mtN true ⟨hbw,by rw[hfw,dU],hS⟩)
                     · intro c71;refine cG ?_;have hfn1:=Kw (w:=w) hcm;have hbn1:=Kn hcm hne
                       first
                         | (exfalso; omega)
                         | (have hfw:Kr c w=false:=by
                              rw[hfn1]; clear hS hw hfr hnm hre hd1 hd2 hnw hfm hfe hlm hcn hcm hne hbn1; simp_all
                            have hbw:Kj c w=0:=by
                              rw[hbn1]; clear hS hw hfr hnm hre hd1 hd2 hnw hfm hfe hlm hcn hcm hne hfn1 hfw; simp_all
                            exact mtN eb ⟨hbw,by rw[hfw,dO],hS⟩)
                         | (have hfw:Kr c w=true:=by
                              rw[hfn1]; clear hS hw hfr hnm hre hd1 hd2 hnw hfm hfe hlm hcn hcm hne hbn1; simp_all
                            have hbw:Kj c w=0:=by
                              rw[hbn1]; clear hS hw hfr hnm hre hd1 hd2 hnw hfm hfe hlm hcn hcm hne hfn1 hfw; simp_all
                            exact mtN true ⟨hbw,by rw[hfw,dU],hS⟩)
                   · intro g80;have g80:=of_decide_eq_false g80;refine cw ?_;have hfn1:=Kw (w:=w) hcm;have hbn1:=Kn hcm hne
                     first
                       | (exfalso; omega)
                       | (have hfw:Kr c w=false:=by
                            rw[hfn1]; clear hS hw hfr hnm hre hd1 hd2 hnw hfm hfe hlm hcn hcm hne hbn1; simp_all
                          have hbw:Kj c w=0:=by
                            rw[hbn1]; clear hS hw hfr hnm hre hd1 hd2 hnw hfm hfe hlm hcn hcm hne hfn1 hfw; simp_all
                          exact mtN eb ⟨hbw,by rw[hfw,dO],hS⟩)
                       | (have hfw:Kr c w=true:=by
                            rw[hfn1]; clear hS hw hfr hnm hre hd1 hd2 hnw hfm hfe hlm hcn hcm hne hbn1; simp_all
                          have hbw:Kj c w=0:=by
                            rw[hbn1]; clear hS hw hfr hnm hre hd1 hd2 hnw hfm hfe hlm hcn hcm hne hfn1 hfw; simp_all
                          exact mtN true ⟨hbw,by rw[hfw,dU],hS⟩)
             · intro g67;have g67:=Z4 g67;refine Oa [4,6,7,9,10,38,56,57,58,59,60,61,62,64,68,69] ?_;refine OM ?_;refine Oc ?_;refine Ov (dj:=74) rfl rfl true false rfl ?_ ?_
               · intro g74;have g74:=of_decide_eq_true g74;refine b8 ?_;refine On ?_ ?_
                 · intro c71;refine OC ?_;refine Od ?_;refine On ?_ ?_
                   · intro c71;refine ce ?_;have hfn1:=Kw (w:=w) hcm;have hbn1:=Kn hcm hne
                     first
                       | (exfalso; omega)
                       | (have hfw:Kr c w=false:=by
                            rw[hfn1]; clear hS hw hfr hnm hre hd1 hd2 hnw hfm hfe hlm hcn hcm hne hbn1; simp_all
                          have hbw:Kj c w=0:=by
                            rw[hbn1]; clear hS hw hfr hnm hre hd1 hd2 hnw hfm hfe hlm hcn hcm hne hfn1 hfw; simp_all
                          exact mtN eb ⟨hbw,by rw[hfw,dO],hS⟩)
                       | (have hfw:Kr c w=true:=by
                            rw[hfn1]; clear hS hw hfr hnm hre hd1 hd2 hnw hfm hfe hlm hcn hcm hne hbn1; simp_all
                          have hbw:Kj c w=0:=by
                            rw[hbn1]; clear hS hw hfr hnm hre hd1 hd2 hnw hfm hfe hlm hcn hcm hne hfn1 hfw; simp_all
                          exact mtN true ⟨hbw,by rw[hfw,dU],hS⟩)
                   · intro c71;refine cG ?_;have hfn1:=Kw (w:=w) hcm;have hbn1:=Kn hcm hne
                     first
                       | (exfalso; omega)
                       | (have hfw:Kr c w=false:=by
                            rw[hfn1]; clear hS hw hfr hnm hre hd1 hd2 hnw hfm hfe hlm hcn hcm hne hbn1; simp_all
                          have hbw:Kj c w=0:=by
                            rw[hbn1]; clear hS hw hfr hnm hre hd1 hd2 hnw hfm hfe hlm hcn hcm hne hfn1 hfw; simp_all
                          exact mtN eb ⟨hbw,by rw[hfw,dO],hS⟩)
                       | (have hfw:Kr c w=true:=by
                            rw[hfn1]; clear hS hw hfr hnm hre hd1 hd2 hnw hfm hfe hlm hcn hcm hne hbn1; simp_all
                          have hbw:Kj c w=0:=by
                            rw[hbn1]; clear hS hw hfr hnm hre hd1 hd2 hnw hfm hfe hlm hcn hcm hne hfn1 hfw; simp_all
                          exact mtN true ⟨hbw,by rw[hfw,dU],hS⟩)
                 · intro c71;refine Oc ?_;refine Ov (dj:=80) rfl rfl true false rfl ?_ ?_
                   · intro g80;have g80:=of_decide_eq_true g80;refine bc ?_;refine On ?_ ?_
                     · intro c71;refine ce ?_;have hfn1:=Kw (w:=w) hcm;have hbn1:=Kn hcm hne
                       first
                         | (exfalso; omega)
                         | (have hfw:Kr c w=false:=by
                              rw[hfn1]; clear hS hw hfr hnm hre hd1 hd2 hnw hfm hfe hlm hcn hcm hne hbn1; simp_all
                            have hbw:Kj c w=0:=by
                              rw[hbn1]; clear hS hw hfr hnm hre hd1 hd2 hnw hfm hfe hlm hcn hcm hne hfn1 hfw; simp_all
                            exact mtN eb ⟨hbw,by rw[hfw,dO],hS⟩)
                         | (have hfw:Kr c w=true:=by
                              rw[hfn1]; clear hS hw hfr hnm hre hd1 hd2 hnw hfm hfe hlm hcn hcm hne hbn1; simp_all
                            have hbw:Kj c w=0:=by
                              rw[hbn1]; clear hS hw hfr hnm hre hd1 hd2 hnw hfm hfe hlm hcn hcm hne hfn1 hfw; simp_all
                            exact mtN true ⟨hbw,by rw[hfw,dU],hS⟩)
                     · intro c71;refine cG ?_;have hfn1:=Kw (w:=w) hcm;have hbn1:=Kn hcm hne
                       first
                         | (exfalso; omega)
                         | (have hfw:Kr c w=false:=by
                              rw[hfn1]; clear hS hw hfr hnm hre hd1 hd2 hnw hfm hfe hlm hcn hcm hne hbn1; simp_all
                            have hbw:Kj c w=0:=by
                              rw[hbn1]; clear hS hw hfr hnm hre hd1 hd2 hnw hfm hfe hlm hcn hcm hne hfn1 hfw; simp_all
                            exact mtN eb ⟨hbw,by rw[hfw,dO],hS⟩)
                         | (have hfw:Kr c w=true:=by
                              rw[hfn1]; clear hS hw hfr hnm hre hd1 hd2 hnw hfm hfe hlm hcn hcm hne hbn1; simp_all
                            have hbw:Kj c w=0:=by
                              rw[hbn1]; clear hS hw hfr hnm hre hd1 hd2 hnw hfm hfe hlm hcn hcm hne hfn1 hfw; simp_all
                            exact mtN true ⟨hbw,by rw[hfw,dU],hS⟩)
                   · intro g80;have g80:=of_decide_eq_false g80;refine cw ?_;have hfn1:=Kw (w:=w) hcm;have hbn1:=Kn hcm hne
                     first
                       | (exfalso; omega)
                       | (have hfw:Kr c w=false:=by
                            rw[hfn1]; clear hS hw hfr hnm hre hd1 hd2 hnw hfm hfe hlm hcn hcm hne hbn1; simp_all
                          have hbw:Kj c w=0:=by
                            rw[hbn1]; clear hS hw hfr hnm hre hd1 hd2 hnw hfm hfe hlm hcn hcm hne hfn1 hfw; simp_all
                          exact mtN eb ⟨hbw,by rw[hfw,dO],hS⟩)
                       | (have hfw:Kr c w=true:=by
                            rw[hfn1]; clear hS hw hfr hnm hre hd1 hd2 hnw hfm hfe hlm hcn hcm hne hbn1; simp_all
                          have hbw:Kj c w=0:=by
                            rw[hbn1]; clear hS hw hfr hnm hre hd1 hd2 hnw hfm hfe hlm hcn hcm hne hfn1 hfw; simp_all
                          exact mtN true ⟨hbw,by rw[hfw,dU],hS⟩)
               · intro g74;have g74:=of_decide_eq_false g74;refine b8 ?_;refine OM ?_;refine Oc ?_;refine Ov (dj:=80) rfl rfl true false rfl ?_ ?_
                 · intro g80;have g80:=of_decide_eq_true g80;refine bc ?_;refine On ?_ ?_
                   · intro c71;refine ce ?_;have hfn1:=Kw (w:=w) hcm;have hbn1:=Kn hcm hne
                     first
                       | (exfalso; omega)
                       | (have hfw:Kr c w=false:=by
                            rw[hfn1]; clear hS hw hfr hnm hre hd1 hd2 hnw hfm hfe hlm hcn hcm hne hbn1; simp_all
                          have hbw:Kj c w=0:=by
                            rw[hbn1]; clear hS hw hfr hnm hre hd1 hd2 hnw hfm hfe hlm hcn hcm hne hfn1 hfw; simp_all
                          exact mtN eb ⟨hbw,by rw[hfw,dO],hS⟩)
                       | (have hfw:Kr c w=true:=by
                            rw[hfn1]; clear hS hw hfr hnm hre hd1 hd2 hnw hfm hfe hlm hcn hcm hne hbn1; simp_all
                          have hbw:Kj c w=0:=by
                            rw[hbn1]; clear hS hw hfr hnm hre hd1 hd2 hnw hfm hfe hlm hcn hcm hne hfn1 hfw; simp_all
                          exact mtN true ⟨hbw,by rw[hfw,dU],hS⟩)
                   · intro c71;refine cG ?_;have hfn1:=Kw (w:=w) hcm;have hbn1:=Kn hcm hne
                     first
                       | (exfalso; omega)
                       | (have hfw:Kr c w=false:=by
                            rw[hfn1]; clear hS hw hfr hnm hre hd1 hd2 hnw hfm hfe hlm hcn hcm hne hbn1; simp_all
                          have hbw:Kj c w=0:=by
                            rw[hbn1]; clear hS hw hfr hnm hre hd1 hd2 hnw hfm hfe hlm hcn hcm hne hfn1 hfw; simp_all
                          exact mtN eb ⟨hbw,by rw[hfw,dO],hS⟩)
                       | (have hfw:Kr c w=true:=by
                            rw[hfn1]; clear hS hw hfr hnm hre hd1 hd2 hnw hfm hfe hlm hcn hcm hne hbn1; simp_all
                          have hbw:Kj c w=0:=by
                            rw[hbn1]; clear hS hw hfr hnm hre hd1 hd2 hnw hfm hfe hlm hcn hcm hne hfn1 hfw; simp_all
                          exact mtN true ⟨hbw,by rw[hfw,dU],hS⟩)
                 · intro g80;have g80:=of_decide_eq_false g80;refine cw ?_;have hfn1:=Kw (w:=w) hcm;have hbn1:=Kn hcm hne
                   first
                     | (exfalso; omega)
                     | (have hfw:Kr c w=false:=by
                          rw[hfn1]; clear hS hw hfr hnm hre hd1 hd2 hnw hfm hfe hlm hcn hcm hne hbn1; simp_all
                        have hbw:Kj c w=0:=by
                          rw[hbn1]; clear hS hw hfr hnm hre hd1 hd2 hnw hfm hfe hlm hcn hcm hne hfn1 hfw; simp_all
                        exact mtN eb ⟨hbw,by rw[hfw,dO],hS⟩)
                     | (have hfw:Kr c w=true:=by
                          rw[hfn1]; clear hS hw hfr hnm hre hd1 hd2 hnw hfm hfe hlm hcn hcm hne hbn1; simp_all
                        have hbw:Kj c w=0:=by
                          rw[hbn1]; clear hS hw hfr hnm hre hd1 hd2 hnw hfm hfe hlm hcn hcm hne hfn1 hfw; simp_all
                        exact mtN true ⟨hbw,by rw[hfw,dU],hS⟩)
         · intro g55;have g55:=of_decide_eq_false g55;refine Oa [4,6,7,9,10,11,38,52,56,57,58,59,60,61,62] ?_;refine OM ?_;refine Oc ?_;refine Ov (dj:=67) rfl rfl true false rfl ?_ ?_
           · intro g67;have g67:=Zb g67;refine Oa [4,6,7,9,10,38,56,57,58,59,60,61,62,64,68,69] ?_;refine Kz ?_ ?_;intro c64;refine Oa [2,3] ?_;refine Ke ?_;refine QC ?_;refine mtQ.ret ?_;refine Oi ?_;have hb0:Kj c w=9:=by
               rw[Kn hcm hne];clear hS hw hfr hnm hre hd1 hd2 hnw hfm hfe hlm hcn hcm hne;simp_all
             have hw0:QT f ((Kf 32 l).drop 1)=9:=by
               rw[hw,QT,if_neg (by rw[hb0]; decide),hb0]
             have hq:Ky l=9:=by
               rw[hre,hw0,if_pos aE]
             exact⟨⟨_,rfl,by rw[hq],fun h0=>by rw[hq] at h0; cases h0⟩,hS.keeps⟩
             · intro c64;refine Oc ?_;refine Ov (dj:=74) rfl rfl true false rfl ?_ ?_
               · intro g74;have g74:=of_decide_eq_true g74;refine b8 ?_;refine On ?_ ?_
                 · intro c71;refine OC ?_;refine Od ?_;refine On ?_ ?_
                   · intro c71;refine ce ?_;have hfn1:=Kw (w:=w) hcm;have hbn1:=Kn hcm hne
                     first
                       | (exfalso; omega)
                       | (have hfw:Kr c w=false:=by
                            rw[hfn1]; clear hS hw hfr hnm hre hd1 hd2 hnw hfm hfe hlm hcn hcm hne hbn1; simp_all
                          have hbw:Kj c w=0:=by
                            rw[hbn1]; clear hS hw hfr hnm hre hd1 hd2 hnw hfm hfe hlm hcn hcm hne hfn1 hfw; simp_all
                          exact mtN eb ⟨hbw,by rw[hfw,dO],hS⟩)
                       | (have hfw:Kr c w=true:=by
                            rw[hfn1]; clear hS hw hfr hnm hre hd1 hd2 hnw hfm hfe hlm hcn hcm hne hbn1; simp_all
                          have hbw:Kj c w=0:=by
                            rw[hbn1]; clear hS hw hfr hnm hre hd1 hd2 hnw hfm hfe hlm hcn hcm hne hfn1 hfw; simp_all
                          exact mtN true ⟨hbw,by rw[hfw,dU],hS⟩)
                   · intro c71;refine cG ?_;have hfn1:=Kw (w:=w) hcm;have hbn1:=Kn hcm hne
                     first
                       | (exfalso; omega)
                       | (have hfw:Kr c w=false:=by
                            rw[hfn1]; clear hS hw hfr hnm hre hd1 hd2 hnw hfm hfe hlm hcn hcm hne hbn1; simp_all
                          have hbw:Kj c w=0:=by
                            rw[hbn1]; clear hS hw hfr hnm hre hd1 hd2 hnw hfm hfe hlm hcn hcm hne hfn1 hfw; simp_all
                          exact mtN eb ⟨hbw,by rw[hfw,dO],hS⟩)
                       | (have hfw:Kr c w=true:=by
                            rw[hfn1]; clear hS hw hfr hnm hre hd1 hd2 hnw hfm hfe hlm hcn hcm hne hbn1; simp_all
                          have hbw:Kj c w=0:=by
                            rw[hbn1]; clear hS hw hfr hnm hre hd1 hd2 hnw hfm hfe hlm hcn hcm hne hfn1 hfw; simp_all
                          exact mtN true ⟨hbw,by rw[hfw,dU],hS⟩)
                 · intro c71;refine Oc ?_;refine Ov (dj:=80) rfl rfl true false rfl ?_ ?_
                   · intro g80;have g80:=of_decide_eq_true g80;refine bc ?_;refine On ?_ ?_
                     · intro c71;refine ce ?_;have hfn1:=Kw (w:=w) hcm;have hbn1:=Kn hcm hne
                       first
                         | (exfalso; omega)
                         | (have hfw:Kr c w=false:=by
                              rw[hfn1]; clear hS hw hfr hnm hre hd1 hd2 hnw hfm hfe hlm hcn hcm hne hbn1; simp_all
                            have hbw:Kj c w=0:=by
                              rw[hbn1]; clear hS hw hfr hnm hre hd1 hd2 hnw hfm hfe hlm hcn hcm hne hfn1 hfw; simp_all
                            exact mtN eb ⟨hbw,by rw[hfw,dO],hS⟩)
                         | (have hfw:Kr c w=true:=by
                              rw[hfn1]; clear hS hw hfr hnm hre hd1 hd2 hnw hfm hfe hlm hcn hcm hne hbn1; simp_all
                            have hbw:Kj c w=0:=by
                              rw[hbn1]; clear hS hw hfr hnm hre hd1 hd2 hnw hfm hfe hlm hcn hcm hne hfn1 hfw; simp_all
                            exact mtN true ⟨hbw,by rw[hfw,dU],hS⟩)
                     · intro c71;refine cG ?_;have hfn1:=Kw (w:=w) hcm;have hbn1:=Kn hcm hne
                       first
                         | (exfalso; omega)
                         | (have hfw:Kr c w=false:=by
                              rw[hfn1]; clear hS hw hfr hnm hre hd1 hd2 hnw hfm hfe hlm hcn hcm hne hbn1; simp_all
                            have hbw:Kj c w=0:=by
                              rw[hbn1]; clear hS hw hfr hnm hre hd1 hd2 hnw hfm hfe hlm hcn hcm hne hfn1 hfw; simp_all
                            exact mtN eb ⟨hbw,by rw[hfw,dO],hS⟩)
                         | (have hfw:Kr c w=true:=by
                              rw[hfn1]; clear hS hw hfr hnm hre hd1 hd2 hnw hfm hfe hlm hcn hcm hne hbn1; simp_all
                            have hbw:Kj c w=0:=by
                              rw[hbn1]; clear hS hw hfr hnm hre hd1 hd2 hnw hfm hfe hlm hcn hcm hne hfn1 hfw; simp_all
                            exact mtN true ⟨hbw,by rw[hfw,dU],hS⟩)
                   · intro g80;have g80:=of_decide_eq_false g80;refine cw ?_;have hfn1:=Kw (w:=w) hcm;have hbn1:=Kn hcm hne
                     first
                       | (exfalso; omega)
                       | (have hfw:Kr c w=false:=by
                            rw[hfn1]; clear hS hw hfr hnm hre hd1 hd2 hnw hfm hfe hlm hcn hcm hne hbn1; simp_all
                          have hbw:Kj c w=0:=by
                            rw[hbn1]; clear hS hw hfr hnm hre hd1 hd2 hnw hfm hfe hlm hcn hcm hne hfn1 hfw; simp_all
                          exact mtN eb ⟨hbw,by rw[hfw,dO],hS⟩)
                       | (have hfw:Kr c w=true:=by
                            rw[hfn1]; clear hS hw hfr hnm hre hd1 hd2 hnw hfm hfe hlm hcn hcm hne hbn1; simp_all
                          have hbw:Kj c w=0:=by
                            rw[hbn1]; clear hS hw hfr hnm hre hd1 hd2 hnw hfm hfe hlm hcn hcm hne hfn1 hfw; simp_all
                          exact mtN true ⟨hbw,by rw[hfw,dU],hS⟩)
               · intro g74;have g74:=of_decide_eq_false g74;refine b8 ?_;refine OM ?_;refine Oc ?_;refine Ov (dj:=80) rfl rfl true false rfl ?_ ?_
                 · intro g80;have g80:=of_decide_eq_true g80;refine bc ?_;refine On ?_ ?_
                   · intro c71;refine ce ?_;have hfn1:=Kw (w:=w) hcm;have hbn1:=Kn hcm hne
                     first
                       | (exfalso; omega)
                       | (have hfw:Kr c w=false:=by
                            rw[hfn1]; clear hS hw hfr hnm hre hd1 hd2 hnw hfm hfe hlm hcn hcm hne hbn1; simp_all
                          have hbw:Kj c w=0:=by
                            rw[hbn1]; clear hS hw hfr hnm hre hd1 hd2 hnw hfm hfe hlm hcn hcm hne hfn1 hfw; simp_all
                          exact mtN eb ⟨hbw,by rw[hfw,dO],hS⟩)
                       | (have hfw:Kr c w=true:=by
                            rw[hfn1]; clear hS hw hfr hnm hre hd1 hd2 hnw hfm hfe hlm hcn hcm hne hbn1; simp_all
                          have hbw:Kj c w=0:=by
                            rw[hbn1]; clear hS hw hfr hnm hre hd1 hd2 hnw hfm hfe hlm hcn hcm hne hfn1 hfw; simp_all
                          exact mtN true ⟨hbw,by rw[hfw,dU],hS⟩)
                   · intro c71;refine cG ?_;have hfn1:=Kw (w:=w) hcm;have hbn1:=Kn hcm hne
                     first
                       | (exfalso; omega)
                       | (have hfw:Kr c w=false:=by
                            rw[hfn1]; clear hS hw hfr hnm hre hd1 hd2 hnw hfm hfe hlm hcn hcm hne hbn1; simp_all
                          have hbw:Kj c w=0:=by
                            rw[hbn1]; clear hS hw hfr hnm hre hd1 hd2 hnw hfm hfe hlm hcn hcm hne hfn1 hfw; simp_all
                          exact mtN eb ⟨hbw,by rw[hfw,dO],hS⟩)
                       | (have hfw:Kr c w=true:=by
                            rw[hfn1]; clear hS hw hfr hnm hre hd1 hd2 hnw hfm hfe hlm hcn hcm hne hbn1; simp_all
                          have hbw:Kj c w=0:=by
                            rw[hbn1]; clear hS hw hfr hnm hre hd1 hd2 hnw hfm hfe hlm hcn hcm hne hfn1 hfw; simp_all
                          exact mtN true ⟨hbw,by rw[hfw,dU],hS⟩)
                 · intro g80;have g80:=of_decide_eq_false g80;refine cw ?_;have hfn1:=Kw (w:=w) hcm;have hbn1:=Kn hcm hne
                   first
                     | (exfalso; omega)
                     | (have hfw:Kr c w=false:=by
                          rw[hfn1]; clear hS hw hfr hnm hre hd1 hd2 hnw hfm hfe hlm hcn hcm hne hbn1; simp_all
                        have hbw:Kj c w=0:=by
                          rw[hbn1]; clear hS hw hfr hnm hre hd1 hd2 hnw hfm hfe hlm hcn hcm hne hfn1 hfw; simp_all
                        exact mtN eb ⟨hbw,by rw[hfw,dO],hS⟩)
                     | (have hfw:Kr c w=true:=by
                          rw[hfn1]; clear hS hw hfr hnm hre hd1 hd2 hnw hfm hfe hlm hcn hcm hne hbn1; simp_all
                        have hbw:Kj c w=0:=by
                          rw[hbn1]; clear hS hw hfr hnm hre hd1 hd2 hnw hfm hfe hlm hcn hcm hne hfn1 hfw; simp_all
                        exact mtN true ⟨hbw,by rw[hfw,dU],hS⟩)
           · intro g67;have g67:=Z4 g67;refine Oa [4,6,7,9,10,38,56,57,58,59,60,61,62,64,68,69] ?_;refine OM ?_;refine Oc ?_;refine Ov (dj:=74) rfl rfl true false rfl ?_ ?_
             · intro g74;have g74:=of_decide_eq_true g74;refine b8 ?_;refine On ?_ ?_
               · intro c71;refine OC ?_;refine Od ?_;refine On ?_ ?_
                 · intro c71;refine ce ?_;have hfn1:=Kw (w:=w) hcm;have hbn1:=Kn hcm hne
                   first
                     | (exfalso; omega)
                     | (have hfw:Kr c w=false:=by
                          rw[hfn1]; clear hS hw hfr hnm hre hd1 hd2 hnw hfm hfe hlm hcn hcm hne hbn1; simp_all
                        have hbw:Kj c w=0:=by
                          rw[hbn1]; clear hS hw hfr hnm hre hd1 hd2 hnw hfm hfe hlm hcn hcm hne hfn1 hfw; simp_all
                        exact mtN eb ⟨hbw,by rw[hfw,dO],hS⟩)
                     | (have hfw:Kr c w=true:=by
                          rw[hfn1]; clear hS hw hfr hnm hre hd1 hd2 hnw hfm hfe hlm hcn hcm hne hbn1; simp_all
                        have hbw:Kj c w=0:=by
                          rw[hbn1]; clear hS hw hfr hnm hre hd1 hd2 hnw hfm hfe hlm hcn hcm hne hfn1 hfw; simp_all
                        exact mtN true ⟨hbw,by rw[hfw,dU],hS⟩)
                 · intro c71;refine cG ?_;have hfn1:=Kw (w:=w) hcm;have hbn1:=Kn hcm hne
                   first
                     | (exfalso; omega)
                     | (have hfw:Kr c w=false:=by
                          rw[hfn1]; clear hS hw hfr hnm hre hd1 hd2 hnw hfm hfe hlm hcn hcm hne hbn1; simp_all
                        have hbw:Kj c w=0:=by
                          rw[hbn1]; clear hS hw hfr hnm hre hd1 hd2 hnw hfm hfe hlm hcn hcm hne hfn1 hfw; simp_all
                        exact mtN eb ⟨hbw,by rw[hfw,dO],hS⟩)
                     | (have hfw:Kr c w=true:=by
                          rw[hfn1]; clear hS hw hfr hnm hre hd1 hd2 hnw hfm hfe hlm hcn hcm hne hbn1; simp_all
                        have hbw:Kj c w=0:=by
                          rw[hbn1]; clear hS hw hfr hnm hre hd1 hd2 hnw hfm hfe hlm hcn hcm hne hfn1 hfw; simp_all
                        exact mtN true ⟨hbw,by rw[hfw,dU],hS⟩)
               · intro c71;refine Oc ?_;refine Ov (dj:=80) rfl rfl true false rfl ?_ ?_
                 · intro g80;have g80:=of_decide_eq_true g80;refine bc ?_;refine On ?_ ?_
                   · intro c71;refine ce ?_;have hfn1:=Kw (w:=w) hcm;have hbn1:=Kn hcm hne
                     first
                       | (exfalso; omega)
                       | (have hfw:Kr c w=false:=by
                            rw[hfn1]; clear hS hw hfr hnm hre hd1 hd2 hnw hfm hfe hlm hcn hcm hne hbn1; simp_all
                          have hbw:Kj c w=0:=by
                            rw[hbn1]; clear hS hw hfr hnm hre hd1 hd2 hnw hfm hfe hlm hcn hcm hne hfn1 hfw; simp_all
                          exact mtN eb ⟨hbw,by rw[hfw,dO],hS⟩)
                       | (have hfw:Kr c w=true:=by
                            rw[hfn1]; clear hS hw hfr hnm hre hd1 hd2 hnw hfm hfe hlm hcn hcm hne hbn1; simp_all
                          have hbw:Kj c w=0:=by
                            rw[hbn1]; clear hS hw hfr hnm hre hd1 hd2 hnw hfm hfe hlm hcn hcm hne hfn1 hfw; simp_all
                          exact mtN true ⟨hbw,by rw[hfw,dU],hS⟩)
                   · intro c71;refine cG ?_;have hfn1:=Kw (w:=w) hcm;have hbn1:=Kn hcm hne
                     first
                       | (exfalso; omega)
                       | (have hfw:Kr c w=false:=by
                            rw[hfn1]; clear hS hw hfr hnm hre hd1 hd2 hnw hfm hfe hlm hcn hcm hne hbn1; simp_all
                          have hbw:Kj c w=0:=by
                            rw[hbn1]; clear hS hw hfr hnm hre hd1 hd2 hnw hfm hfe hlm hcn hcm hne hfn1 hfw; simp_all
                          exact mtN eb ⟨hbw,by rw[hfw,dO],hS⟩)
                       | (have hfw:Kr c w=true:=by
                            rw[hfn1]; clear hS hw hfr hnm hre hd1 hd2 hnw hfm hfe hlm hcn hcm hne hbn1; simp_all
                          have hbw:Kj c w=0:=by
                            rw[hbn1]; clear hS hw hfr hnm hre hd1 hd2 hnw hfm hfe hlm hcn hcm hne hfn1 hfw; simp_all
                          exact mtN true ⟨hbw,by rw[hfw,dU],hS⟩)
                 · intro g80;have g80:=of_decide_eq_false g80;refine cw ?_;have hfn1:=Kw (w:=w) hcm;have hbn1:=Kn hcm hne
                   first
                     | (exfalso; omega)
                     | (have hfw:Kr c w=false:=by
                          rw[hfn1]; clear hS hw hfr hnm hre hd1 hd2 hnw hfm hfe hlm hcn hcm hne hbn1; simp_all
                        have hbw:Kj c w=0:=by
                          rw[hbn1]; clear hS hw hfr hnm hre hd1 hd2 hnw hfm hfe hlm hcn hcm hne hfn1 hfw; simp_all
                        exact mtN eb ⟨hbw,by rw[hfw,dO],hS⟩)
                     | (have hfw:Kr c w=true:=by
                          rw[hfn1]; clear hS hw hfr hnm hre hd1 hd2 hnw hfm hfe hlm hcn hcm hne hbn1; simp_all
                        have hbw:Kj c w=0:=by
                          rw[hbn1]; clear hS hw hfr hnm hre hd1 hd2 hnw hfm hfe hlm hcn hcm hne hfn1 hfw; simp_all
                        exact mtN true ⟨hbw,by rw[hfw,dU],hS⟩)
             · intro g74;have g74:=of_decide_eq_false g74;refine b8 ?_;refine OM ?_;refine Oc ?_;refine Ov (dj:=80) rfl rfl true false rfl ?_ ?_
               · intro g80;have g80:=of_decide_eq_true g80;refine bc ?_;refine On ?_ ?_
                 · intro c71;refine ce ?_;have hfn1:=Kw (w:=w) hcm;have hbn1:=Kn hcm hne
                   first
                     | (exfalso; omega)
                     | (have hfw:Kr c w=false:=by
                          rw[hfn1]; clear hS hw hfr hnm hre hd1 hd2 hnw hfm hfe hlm hcn hcm hne hbn1; simp_all
                        have hbw:Kj c w=0:=by
                          rw[hbn1]; clear hS hw hfr hnm hre hd1 hd2 hnw hfm hfe hlm hcn hcm hne hfn1 hfw; simp_all
                        exact mtN eb ⟨hbw,by rw[hfw,dO],hS⟩)
                     | (have hfw:Kr c w=true:=by
                          rw[hfn1]; clear hS hw hfr hnm hre hd1 hd2 hnw hfm hfe hlm hcn hcm hne hbn1; simp_all
                        have hbw:Kj c w=0:=by
                          rw[hbn1]; clear hS hw hfr hnm hre hd1 hd2 hnw hfm hfe hlm hcn hcm hne hfn1 hfw; simp_all
                        exact mtN true ⟨hbw,by rw[hfw,dU],hS⟩)
                 · intro c71;refine cG ?_;have hfn1:=Kw (w:=w) hcm;have hbn1:=Kn hcm hne
                   first
                     | (exfalso; omega)
                     | (have hfw:Kr c w=false:=by
                          rw[hfn1]; clear hS hw hfr hnm hre hd1 hd2 hnw hfm hfe hlm hcn hcm hne hbn1; simp_all
                        have hbw:Kj c w=0:=by
                          rw[hbn1]; clear hS hw hfr hnm hre hd1 hd2 hnw hfm hfe hlm hcn hcm hne hfn1 hfw; simp_all
                        exact mtN eb ⟨hbw,by rw[hfw,dO],hS⟩)
                     | (have hfw:Kr c w=true:=by
                          rw[hfn1]; clear hS hw hfr hnm hre hd1 hd2 hnw hfm hfe hlm hcn hcm hne hbn1; simp_all
                        have hbw:Kj c w=0:=by
                          rw[hbn1]; clear hS hw hfr hnm hre hd1 hd2 hnw hfm hfe hlm hcn hcm hne hfn1 hfw; simp_all
                        exact mtN true ⟨hbw,by rw[hfw,dU],hS⟩)
               · intro g80;have g80:=of_decide_eq_false g80;refine cw ?_;have hfn1:=Kw (w:=w) hcm;have hbn1:=Kn hcm hne
                 first
                   | (exfalso; omega)
                   | (have hfw:Kr c w=false:=by
                        rw[hfn1]; clear hS hw hfr hnm hre hd1 hd2 hnw hfm hfe hlm hcn hcm hne hbn1; simp_all
                      have hbw:Kj c w=0:=by
                        rw[hbn1]; clear hS hw hfr hnm hre hd1 hd2 hnw hfm hfe hlm hcn hcm hne hfn1 hfw; simp_all
                      exact mtN eb ⟨hbw,by rw[hfw,dO],hS⟩)
                   | (have hfw:Kr c w=true:=by
                        rw[hfn1]; clear hS hw hfr hnm hre hd1 hd2 hnw hfm hfe hlm hcn hcm hne hbn1; simp_all
                      have hbw:Kj c w=0:=by
                        rw[hbn1]; clear hS hw hfr hnm hre hd1 hd2 hnw hfm hfe hlm hcn hcm hne hfn1 hfw; simp_all
                      exact mtN true ⟨hbw,by rw[hfw,dU],hS⟩)
       ·
         rintro y h3 ⟨hbad,hyy,hS⟩;refine Oa [4,6,7,10,38,85] ?_;refine Kk ?_ ?_;intro c85;refine ce ?_;have hc9:c≠119:=fun e=>c85 (by rw[e]; rfl)
         have hnum:Qm w 3=true:=by
           rw[Kj,if_neg hc9] at hbad;by_cases q:Qm w 3=true;exact q;rw[if_neg q] at hbad; cases hbad
         rw[QT,if_pos hbad] at hw;rw[VY,←Bool.or_assoc,←hyy] at hfr;rw[V3,if_neg hc9] at hnm;exact Zx (p+1,y,Z0 w) (by repeat (first|exact Sub.nil _|refine Sub.cons Look.eq ?_|refine Sub.cons (Eq.trans Look.eq (congrArg (AV.int _) aO)) ?_|refine Sub.cons (Eq.trans Look.eq (by rw[if_pos hnum])) ?_)) ⟨hlt,hw,hfr,hnm,hS⟩ aJ;intro c85;refine cG ?_;have hc9:c=119:=hcn.1.1 aA;rw[QT,if_pos hbad] at hw;rw[VY,←Bool.or_assoc,←hyy] at hfr;rw[V3,if_pos hc9] at hnm;exact lpN (p+1,y,n) ⟨hlt,hw,hfr,hnm,hS⟩ aJ
      intro np;refine dB ?_;refine OM ?_;refine bS ?_;refine Ow [4,6,7] ?_;refine Oa [4,6,7,88] ?_;refine Kk ?_ ?_;intro c88;refine cA ?_;have hpe:p=f.length:=by rw[wd_size] at np; omega
      subst hpe;rw[dS] at hw hfr hnm;simp only[QT,VY,dO,V3] at hw hfr hnm;have hq:Ky l=1:=by
       cases eb;exact absurd rfl c88;rw[hre,hw,hfr]; simp
      rw[show(if eb=true then (1:Int) else 0)=1 by cases eb; exact absurd rfl c88; rfl];exact⟨⟨_,rfl,by rw[hq],fun h0=>by rw[hq] at h0; cases h0⟩,hS.keeps⟩;intro c88;refine OD [4,6] ?_;refine Oc ?_;refine Oo rfl (told_c (hS.rd 1 rfl) (by rw[hfe]; exact hfl) (by rw[hfe]; exact hfn)) ?_;rintro _ _ ⟨rfl,rfl⟩;refine cA ?_;have hpe:p=f.length:=by rw[wd_size] at np; omega
      subst hpe;rw[dS] at hw hfr hnm;simp only[QT,VY,dO,V3] at hw hfr hnm;have hq:Ky l=0:=by
       cases eb;rw[hre,hw,hfr]; simp;rw[if_pos rfl] at c88; cases c88
      refine⟨⟨_,tellV_one (Qp (Kf 32 l) n),by rw[hq],fun _=>?_⟩,hS.keeps⟩;unfold K4;simp only[hfe,hnm]
  intro g19;have g19:=of_decide_eq_true g19;refine Oa [4,22] ?_;refine KW ?_;refine cA ?_;have hq:Ky l=9:=by
   unfold Ky; simp only[]; rw[if_neg aA,if_pos (.inl g19)]
  exact⟨⟨_,rfl,by rw[hq],fun h0=>by rw[hq] at h0; cases h0⟩,hS.keeps⟩
end Go.Am
