/-
  Layer 14: what a line tells, or its error.
  Conditions: none.
-/
import Derived.Test.YtgnogfjajnnaoaaGreatDoorCd
open Bool renaming or_false → dA, or_true → dE
open List renaming getD_eq_getElem?_getD → dI, getElem?_eq_getElem → dO, length_cons → dU, getElem_mem → dY, drop_length → dB, nil_append → dC
set_option maxRecDepth 99999
set_option maxHeartbeats 4000000
namespace Go.Am
theorem RA (c:UInt8):∀ (l:Str) (w:Str),w∈OG c l→w.length≤l.length:=by
 intro l
 induction l with
 | nil=>intro w hw; simp[OG] at hw; subst hw; exact Nat.le_refl _
 | cons a l ih=>
  intro w hw;simp only[OG] at hw;split at hw;rcases List.mem_cons.1 hw with rfl|hw
  exact Nat.zero_le _;have:=ih w hw; rw[dU]; omega;split at hw;rename_i x xs he;rcases List.mem_cons.1 hw with rfl|hw
  have:=ih x (by rw[he]; exact List.mem_cons_self);rw[dU,dU]; omega;have:=ih w (by rw[he]; exact List.mem_cons_of_mem _ hw); rw[dU]; omega;simp at hw; subst hw; simp
theorem splitC_len (c:UInt8):∀ l:Str,(OG c l).length≤l.length+1:=by
 intro l
 induction l with
 | nil=>simp[OG]
 | cons a l ih=>
  simp only[OG];split;simp; omega;split;rename_i x xs he; rw[he] at ih; simp at ih⊢; omega;simp
theorem formL_mem (k:Str):∀ c∈OM k,c=119∨c=110∨c=112:=by
 intro c hc;unfold OM at hc;split at hc;simp at hc; simp[hc];split at hc;simp at hc; simp[hc];split at hc;simp at hc; rcases hc with rfl|rfl <;> simp
 split at hc;simp at hc; rcases hc with rfl|rfl <;> simp
 split at hc;simp at hc; simp[hc];cases hc
theorem Wr (k:Str):(OM k).length≤3:=by
 unfold OM;split;decide;split;decide;split;decide;split;decide;split <;> decide
theorem drop_at {α:Type} [Inhabited α] {l:List α} {p:Nat} {d : α} (h:p<l.length):l.drop p=l.getD p d::l.drop (p+1):=by
 rw[List.drop_eq_getElem_cons h,dI,dO h,Option.getD_some]
theorem getD_drop1 (l:List Str) (p:Nat):(l.drop 1).getD p []=l.getD (p+1) []:=by
 rw[dI,List.getElem?_drop,dI,Nat.add_comm]
theorem getD_small {c:UInt8} {l:Str} {p:Nat}:((OG c l).getD p []).length≤l.length:=by
 rw[dI];by_cases h:p<(OG c l).length;rw[dO h]; exact RA c l _ (dY h);rw[List.getElem?_eq_none aA]; exact Nat.zero_le _
theorem isName_of {w:Str} (h:w≠[]):Zz w=JG w:=by
 unfold Zz JG;rw[decide_eq_true h,Bool.true_and]
theorem KB {c:UInt8} {w:Str} (hcm:c=119∨c=110∨c=112):Kr c w=((decide ((c.toNat:Int)=112) && decide (Qf w=0)) || (decide ((c.toNat:Int)=110) && decide (99<Qf w))):=by
 unfold Kr;rcases hcm with q|q|q <;> subst q <;> rfl
theorem Kp {c:UInt8} {w:Str} (hcm:c=119∨c=110∨c=112) (hne:w≠[]):Kg c w=if (c.toNat:Int)=119 then (if JG w then 0 else 10) else if K3 w 3 then 0 else 9:=by
 unfold Kg;rw[isName_of hne];rcases hcm with q|q|q <;> subst q <;> rfl
theorem tellV_one (t:Tell):(KM t).one=true:=by cases t <;> rfl
structure Vs (h:AHeap):Prop where
  sz:Sizes h
  mx:Mx h
  pw:Pow h
theorem Vs.ext {h h':AHeap} (z:Vs h) (k:Keeps h h'):Vs h':=⟨z.sz.ext k,z.mx.ext k,z.pw.ext k⟩
theorem read_c {h:AHeap} {l:Str} (hM:Mx h) (hl:l.length≤1000000):ACalls Go.Proofs.Tryz.prog 68 [.str (wd l)] h (fun q h'=>(∃ v,v.one=true∧q = .tup [v,.int .i64 (Ku l)]∧(Ku l=0→v=KM (Kv l)))∧Keeps h h'):=by
 refine OL 93 [.tmp 2,.tmp 3] Go.Proofs.Tryz.func68 rfl aD rfl rfl (Nat.le_of_ble_eq_true rfl) ?_;have hS:=St.refl h;show KA _ 93 _ _ [(0,.str (wd l))] _;refine Oa [0] ?_;refine Oa [0,14] ?_;refine Om ?_ ?_;intro c14;refine b4 ?_;have hq:Ku l=19:=by
  unfold Ku; rw[if_pos aA]
 exact⟨⟨_,rfl,by rw[hq],fun h0=>by rw[hq] at h0; cases h0⟩,hS.keeps⟩
 ·intro c14;refine OB [0] ?_;refine Oc ?_;refine Oi rfl (split_c hM hl) ?_;rintro v16 h16 ⟨hsl,hS16⟩;replace hS:St _ _ (_::_):=St.trans hS hS16;refine Oa [0,4] ?_;refine bt ?_;have hln:=splitC_len 32 l;have hlm:=@getD_small 32 l;have hl0:=List.length_pos_iff.2 (splitC_ne 32 l);refine Oh ?_;refine Oi rfl (X8 (hS.rd 0 rfl) aA) ?_;rintro _ _ ⟨rfl,rfl⟩;refine Oh ?_;refine OC (dj:=19) rfl rfl false true rfl ?_ ?_
  ·intro g19;have g19:=of_decide_eq_false g19;refine Oc ?_;refine Oi rfl (WK hl) ?_;rintro _ hx ⟨rfl,hK⟩;replace hS:St _ _ _:=St.trans hS (St.ofK hK);simp only[dC] at hS;refine Oa [4,22] ?_;refine Kl ?_ ?_;intro c22;refine b4 ?_;have hq:Ku l=9:=by
    unfold Ku; simp only[]; rw[if_neg aA,if_pos (.inr (show l.any Vk=true from c22))]
   exact⟨⟨_,rfl,by rw[hq],fun h0=>by rw[hq] at h0; cases h0⟩,hS.keeps⟩
   ·intro c22;refine OB [4] ?_;refine Oc ?_;refine Ow (hS.rd 0 rfl) (j:=0) rfl aC ?_;intro p24 hp24;refine OY hp24 (hS.rd 0 rfl) aC ?_;refine Oi rfl (form_c) ?_;rintro _ _ ⟨rfl,rfl⟩;refine Oa [4,5] ?_;refine bh ?_;refine Oa [4,5,27] ?_;refine Om ?_ ?_;intro c27;refine b4 ?_;have hq:Ku l=8:=by
     unfold Ku; simp only[]; rw[if_neg aA,if_neg ai,if_pos c27]
    exact⟨⟨_,rfl,by rw[hq],fun h0=>by rw[hq] at h0; cases h0⟩,hS.keeps⟩
    ·intro c27;refine Ox ?_;have hf3:=Wr ((OG 32 l).getD 0 []);refine Oh ?_;refine O1 (hS.rd 0 rfl) ?_;refine Oa [4,5,30] ?_;refine Kf ?_ ?_;intro c30;refine b4 ?_;have hq:Ku l=5:=by
      unfold Ku; simp only[]; rw[if_neg aA,if_neg ai,if_neg c27,if_pos aA]
     exact⟨⟨_,rfl,by rw[hq],fun h0=>by rw[hq] at h0; cases h0⟩,hS.keeps⟩
     ·intro c30;refine bz ?_;refine Oq [4,5] ?_;refine Ox ?_;obtain⟨hfn,hfl⟩:OM ((OG 32 l).getD 0 [])≠[]∧(OG 32 l).length=(OM ((OG 32 l).getD 0 [])).length+1:=⟨c27,by omega⟩;have hf3:=Wr ((OG 32 l).getD 0 []);have hfm:=formL_mem ((OG 32 l).getD 0 []);generalize hfe:OM ((OG 32 l).getD 0 [])=f at *;have hre:Ku l=if KO f ((OG 32 l).drop 1)≠0 then KO f ((OG 32 l).drop 1) else if YO f ((OG 32 l).drop 1) then 1 else 0:=by
       unfold Ku;simp only[hfe];rw[if_neg aA,if_neg (by intro h; rcases h with h|h; exact g19 h; rw[show(fun c:UInt8=>decide (c.toNat<32∨126<c.toNat))=Vk from rfl] at h; simp[h] at c22),if_neg hfn,if_neg aA]
      have hnw:∀ p,p<f.length→(OG 32 l).getD (p+1) []≠[]:=by
       intro p hp he;refine g19 ?_;rw[dI,dO (show p+1<(OG 32 l).length by omega),Option.getD_some] at he;rw[←he];exact dY _
      refine bf ?_;refine Oc ?_;refine KOps.range hS rfl ?_;intro v38 h' hv38 hS;refine Ot [4,6,7,38] ?_;refine Oz ?_;refine Kd (X:=Nat × Bool × Int) (fun x=>[(4,v16),(6,.int .i64 x.2.2),(7,.int .i64 (if x.2.1 then 1 else 0)),(38,v38)]) (fun x h'=>x.1≤f.length∧KO f ((OG 32 l).drop 1)=KO (f.drop x.1) (((OG 32 l).drop 1).drop x.1)∧YO f ((OG 32 l).drop 1)=(x.2.1 || YO (f.drop x.1) (((OG 32 l).drop 1).drop x.1))∧YS f ((OG 32 l).drop 1) 0=YS (f.drop x.1) (((OG 32 l).drop 1).drop x.1) x.2.2∧St h h' [walkO v38 (wd f) x.1,⟨v16,1,wcs (OG 32 l),true⟩]) (fun x=>f.length - x.1) (0,false,0) ?_ ?_;exact⟨Nat.zero_le _,rfl,by simp,rfl,hS⟩;rintro⟨p,eb,n⟩ h2 ⟨hp,hw,hfr,hnm,hS⟩;dsimp only at hp hw hfr hnm hS⊢;refine Ox ?_;refine KOps.next hS hv38 (i:=0) rfl rfl ?_ ?_
      ·intro np h' hS;simp only[List.set_cons_zero,List.set_cons_succ,Nat.zero_add] at hS;have hlt:p<f.length:=by rw[wd_size] at np; exact np
       have hcm:=hfm (f.getD p 0) (by rw[dI,dO hlt,Option.getD_some]; exact dY hlt);have hc8:(f.getD p 0).toNat<128:=by rcases hcm with q|q|q <;> rw[q] <;> decide
       simp only[Yt hlt hc8] at hS⊢;have hd1:=drop_at (d:=(0:UInt8)) hlt;have hd2:=drop_at (l:=(OG 32 l).drop 1) (p:=p) (d:=([]:Str)) (by rw[List.length_drop]; omega);rw[getD_drop1] at hd2;rw[hd1,hd2] at hw hfr hnm;have hne:=hnw p hlt;generalize hce:f.getD p 0=c at *;obtain⟨w,hwe⟩:∃ w,(OG 32 l).getD (p+1) []=w:=⟨_,rfl⟩;rw[hwe] at hne hw hfr hnm;have hwl:w.length≤1000000:=by have:=hlm (p:=p+1); rw[hwe] at this; omega
       have hcn:(c.toNat=119↔c=119)∧(c.toNat=110↔c=110)∧(c.toNat=112↔c=112):=by
        rcases hcm with q|q|q <;> rw[q] <;> decide
       refine K5 ?_;refine bl ?_;refine KN ?_;refine OB [4,6,7,38,39] ?_;refine Oz ?_;refine Oa [4,6,7,8,9,38] ?_;refine Oc ?_;refine Ow (hS.rd 1 rfl) (j:=_) rfl aC ?_;intro p47 hp47;refine OY hp47 (hS.rd 1 rfl) aC ?_;rw[hwe];refine Oi rfl (number_c (m:=3) aD hwl) ?_;rintro _ hx ⟨rfl,hK⟩;replace hS:St _ _ _:=St.trans hS (St.ofK hK);simp only[dC] at hS;refine Oa [4,6,7,8,9,10,11,38] ?_;refine KA.meet (X:=Bool) (fun y=>[(4,v16),(6,.int .i64 n),(7,.int .i64 (if y then 1 else 0)),(9,.int .i32 (c.toNat:Int)),(10,.int .i64 (if K3 w 3 then Qf w else 0)),(38,v38)]) (fun y h'=>Kg c w=0∧y=(eb || Kr c w)∧St h h' [walkO v38 (wd f) (p+1),⟨v16,1,wcs (OG 32 l),true⟩]) ?_ ?_
       ·
         refine Oz ?_;refine Oc ?_;refine OC (dj:=55) rfl rfl true false rfl ?_ ?_
         · intro g55;have g55:=of_decide_eq_true g55;refine Oc ?_;refine Ow (hS.rd 1 rfl) (j:=_) rfl aC ?_;intro p59 hp59;refine Ol (dj:=55) rfl rfl ?_;refine OY hp59 (hS.rd 1 rfl) aC ?_;rw[hwe];refine Ol (dj:=55) rfl rfl ?_;refine Oi rfl (named_c hwl) ?_;rintro _ _ ⟨rfl,rfl⟩;refine Oa [4,6,7,9,10,11,38,52,56,57,58,59,60,61,62] ?_;refine Kl ?_ ?_;intro c52;refine Oa [2,3] ?_;refine KA.ret ?_;refine blQ.ret ?_;refine mtQ.ret ?_;refine Og ?_;have hb0:Kg c w=10:=by
             rw[Kp hcm hne];clear hS hw hfr hnm hre hd1 hd2 hnw hfm hfe hlm hcn hcm hne;simp_all
           have hw0:KO f ((OG 32 l).drop 1)=10:=by
             rw[hw,KO,if_neg (by rw[hb0]; decide),hb0]
           have hq:Ku l=10:=by
             rw[hre,hw0,if_pos aD]
           exact⟨⟨_,rfl,by rw[hq],fun h0=>by rw[hq] at h0; cases h0⟩,hS.keeps⟩
           · intro c52;refine Oc ?_;refine OC (dj:=67) rfl rfl true false rfl ?_ ?_
             · intro g67;have g67:=Qs g67;refine Oa [4,6,7,9,10,38,56,57,58,59,60,61,62,64,68,69] ?_;refine Kl ?_ ?_;intro c64;refine Oa [2,3] ?_;refine KA.ret ?_;refine blQ.ret ?_;refine mtQ.ret ?_;refine Og ?_;have hb0:Kg c w=9:=by
                 rw[Kp hcm hne];clear hS hw hfr hnm hre hd1 hd2 hnw hfm hfe hlm hcn hcm hne;simp_all
               have hw0:KO f ((OG 32 l).drop 1)=9:=by
                 rw[hw,KO,if_neg (by rw[hb0]; decide),hb0]
               have hq:Ku l=9:=by
                 rw[hre,hw0,if_pos aD]
               exact⟨⟨_,rfl,by rw[hq],fun h0=>by rw[hq] at h0; cases h0⟩,hS.keeps⟩
               · intro c64;refine Oc ?_;refine OC (dj:=74) rfl rfl true false rfl ?_ ?_
                 · intro g74;have g74:=of_decide_eq_true g74;refine bu ?_;refine Om ?_ ?_
                   · intro c71;refine Oy ?_;refine Od ?_;refine Om ?_ ?_
                     · intro c71;refine bU ?_;refine Oj ?_;have hfn1:=KB (w:=w) hcm;have hbn1:=Kp hcm hne
                       first
                         | (exfalso; omega)
                         | (have hfw:Kr c w=false:=by
                              rw[hfn1]; clear hS hw hfr hnm hre hd1 hd2 hnw hfm hfe hlm hcn hcm hne hbn1; simp_all
                            have hbw:Kg c w=0:=by
                              rw[hbn1]; clear hS hw hfr hnm hre hd1 hd2 hnw hfm hfe hlm hcn hcm hne hfn1 hfw; simp_all
                            exact mtN eb ⟨hbw,by rw[hfw,dA],hS⟩)
                         | (have hfw:Kr c w=true:=by
                              rw[hfn1]; clear hS hw hfr hnm hre hd1 hd2 hnw hfm hfe hlm hcn hcm hne hbn1; simp_all
                            have hbw:Kg c w=0:=by
                              rw[hbn1]; clear hS hw hfr hnm hre hd1 hd2 hnw hfm hfe hlm hcn hcm hne hfn1 hfw; simp_all
                            exact mtN true ⟨hbw,by rw[hfw,dE],hS⟩)
                     · intro c71;refine b5 ?_;have hfn1:=KB (w:=w) hcm;have hbn1:=Kp hcm hne
                       first
                         | (exfalso; omega)
                         | (have hfw:Kr c w=false:=by
                              rw[hfn1]; clear hS hw hfr hnm hre hd1 hd2 hnw hfm hfe hlm hcn hcm hne hbn1; simp_all
                            have hbw:Kg c w=0:=by
                              rw[hbn1]; clear hS hw hfr hnm hre hd1 hd2 hnw hfm hfe hlm hcn hcm hne hfn1 hfw; simp_all
                            exact mtN eb ⟨hbw,by rw[hfw,dA],hS⟩)
                         | (have hfw:Kr c w=true:=by
                              rw[hfn1]; clear hS hw hfr hnm hre hd1 hd2 hnw hfm hfe hlm hcn hcm hne hbn1; simp_all
                            have hbw:Kg c w=0:=by
                              rw[hbn1]; clear hS hw hfr hnm hre hd1 hd2 hnw hfm hfe hlm hcn hcm hne hfn1 hfw; simp_all
                            exact mtN true ⟨hbw,by rw[hfw,dE],hS⟩)
                   · intro c71;refine Oc ?_;refine OC (dj:=80) rfl rfl true false rfl ?_ ?_
                     · intro g80;have g80:=of_decide_eq_true g80;refine bX ?_;refine Om ?_ ?_
                       · intro c71;refine bU ?_;refine Oj ?_;have hfn1:=KB (w:=w) hcm;have hbn1:=Kp hcm hne
                         first
                           | (exfalso; omega)
                           | (have hfw:Kr c w=false:=by
                                rw[hfn1]; clear hS hw hfr hnm hre hd1 hd2 hnw hfm hfe hlm hcn hcm hne hbn1; simp_all
                              have hbw:Kg c w=0:=by
                                rw[hbn1]; clear hS hw hfr hnm hre hd1 hd2 hnw hfm hfe hlm hcn hcm hne hfn1 hfw; simp_all
                              exact mtN eb ⟨hbw,by rw[hfw,dA],hS⟩)
                           | (have hfw:Kr c w=true:=by
                                rw[hfn1]; clear hS hw hfr hnm hre hd1 hd2 hnw hfm hfe hlm hcn hcm hne hbn1; simp_all
                              have hbw:Kg c w=0:=by
                                rw[hbn1]; clear hS hw hfr hnm hre hd1 hd2 hnw hfm hfe hlm hcn hcm hne hfn1 hfw; simp_all
                              exact mtN true ⟨hbw,by rw[hfw,dE],hS⟩)
                       · intro c71;refine b5 ?_;have hfn1:=KB (w:=w) hcm;have hbn1:=Kp hcm hne
                         first
                           | (exfalso; omega)
                           | (have hfw:Kr c w=false:=by
                                rw[hfn1]; clear hS hw hfr hnm hre hd1 hd2 hnw hfm hfe hlm hcn hcm hne hbn1; simp_all
                              have hbw:Kg c w=0:=by
                                rw[hbn1]; clear hS hw hfr hnm hre hd1 hd2 hnw hfm hfe hlm hcn hcm hne hfn1 hfw; simp_all
                              exact mtN eb ⟨hbw,by rw[hfw,dA],hS⟩)
                           | (have hfw:Kr c w=true:=by
                                rw[hfn1]; clear hS hw hfr hnm hre hd1 hd2 hnw hfm hfe hlm hcn hcm hne hbn1; simp_all
                              have hbw:Kg c w=0:=by
                                rw[hbn1]; clear hS hw hfr hnm hre hd1 hd2 hnw hfm hfe hlm hcn hcm hne hfn1 hfw; simp_all
                              exact mtN true ⟨hbw,by rw[hfw,dE],hS⟩)
                     · intro g80;have g80:=of_decide_eq_false g80;refine cd ?_;have hfn1:=KB (w:=w) hcm;have hbn1:=Kp hcm hne
                       first
                         | (exfalso; omega)
                         | (have hfw:Kr c w=false:=by
                              rw[hfn1]; clear hS hw hfr hnm hre hd1 hd2 hnw hfm hfe hlm hcn hcm hne hbn1; simp_all
                            have hbw:Kg c w=0:=by
                              rw[hbn1]; clear hS hw hfr hnm hre hd1 hd2 hnw hfm hfe hlm hcn hcm hne hfn1 hfw; simp_all
                            exact mtN eb ⟨hbw,by rw[hfw,dA],hS⟩)
                         | (have hfw:Kr c w=true:=by
                              rw[hfn1]; clear hS hw hfr hnm hre hd1 hd2 hnw hfm hfe hlm hcn hcm hne hbn1; simp_all
                            have hbw:Kg c w=0:=by
                              rw[hbn1]; clear hS hw hfr hnm hre hd1 hd2 hnw hfm hfe hlm hcn hcm hne hfn1 hfw; simp_all
                            exact mtN true ⟨hbw,by rw[hfw,dE],hS⟩)
                 · intro g74;have g74:=of_decide_eq_false g74;refine bu ?_;refine ON ?_;refine Oc ?_;refine OC (dj:=80) rfl rfl true false rfl ?_ ?_
                   · intro g80;have g80:=of_decide_eq_true g80;refine bX ?_;refine Om ?_ ?_
                     · intro c71;refine bU ?_;refine Oj ?_;have hfn1:=KB (w:=w) hcm;have hbn1:=Kp hcm hne
                       first
                         | (exfalso; omega)
                         | (have hfw:Kr c w=false:=by
                              rw[hfn1]; clear hS hw hfr hnm hre hd1 hd2 hnw hfm hfe hlm hcn hcm hne hbn1; simp_all
                            have hbw:Kg c w=0:=by
                              rw[hbn1]; clear hS hw hfr hnm hre hd1 hd2 hnw hfm hfe hlm hcn hcm hne hfn1 hfw; simp_all
                            exact mtN eb ⟨hbw,by rw[hfw,dA],hS⟩)
                         | (have hfw:Kr c w=true:=by
                              rw[hfn1]; clear hS hw hfr hnm hre hd1 hd2 hnw hfm hfe hlm hcn hcm hne hbn1; simp_all
                            have hbw:Kg c w=0:=by
                              rw[hbn1]; clear hS hw hfr hnm hre hd1 hd2 hnw hfm hfe hlm hcn hcm hne hfn1 hfw; simp_all
                            exact mtN true ⟨hbw,by rw[hfw,dE],hS⟩)
                     · intro c71;refine b5 ?_;have hfn1:=KB (w:=w) hcm;have hbn1:=Kp hcm hne
                       first
                         | (exfalso; omega)
                         | (have hfw:Kr c w=false:=by
                              rw[hfn1]; clear hS hw hfr hnm hre hd1 hd2 hnw hfm hfe hlm hcn hcm hne hbn1; simp_all
                            have hbw:Kg c w=0:=by
                              rw[hbn1]; clear hS hw hfr hnm hre hd1 hd2 hnw hfm hfe hlm hcn hcm hne hfn1 hfw; simp_all
                            exact mtN eb ⟨hbw,by rw[hfw,dA],hS⟩)
                         | (have hfw:Kr c w=true:=by
                              rw[hfn1]; clear hS hw hfr hnm hre hd1 hd2 hnw hfm hfe hlm hcn hcm hne hbn1; simp_all
                            have hbw:Kg c w=0:=by
                              rw[hbn1]; clear hS hw hfr hnm hre hd1 hd2 hnw hfm hfe hlm hcn hcm hne hfn1 hfw; simp_all
                            exact mtN true ⟨hbw,by rw[hfw,dE],hS⟩)
                   · intro g80;have g80:=of_decide_eq_false g80;refine cd ?_;have hfn1:=KB (w:=w) hcm;have hbn1:=Kp hcm hne
                     first
                       | (exfalso; omega)
                       | (have hfw:Kr c w=false:=by
                            rw[hfn1]; clear hS hw hfr hnm hre hd1 hd2 hnw hfm hfe hlm hcn hcm hne hbn1; simp_all
                          have hbw:Kg c w=0:=by
                            rw[hbn1]; clear hS hw hfr hnm hre hd1 hd2 hnw hfm hfe hlm hcn hcm hne hfn1 hfw; simp_all
                          exact mtN eb ⟨hbw,by rw[hfw,dA],hS⟩)
                       | (have hfw:Kr c w=true:=by
                            rw[hfn1]; clear hS hw hfr hnm hre hd1 hd2 hnw hfm hfe hlm hcn hcm hne hbn1; simp_all
                          have hbw:Kg c w=0:=by
                            rw[hbn1]; clear hS hw hfr hnm hre hd1 hd2 hnw hfm hfe hlm hcn hcm hne hfn1 hfw; simp_all
                          exact mtN true ⟨hbw,by rw[hfw,dE],hS⟩)
             · intro g67;have g67:=Q2 g67;refine Oa [4,6,7,9,10,38,56,57,58,59,60,61,62,64,68,69] ?_;refine ON ?_;refine Oc ?_;refine OC (dj:=74) rfl rfl true false rfl ?_ ?_
               · intro g74;have g74:=of_decide_eq_true g74;refine bu ?_;refine Om ?_ ?_
                 · intro c71;refine Oy ?_;refine Od ?_;refine Om ?_ ?_
                   · intro c71;refine bU ?_;refine Oj ?_;have hfn1:=KB (w:=w) hcm;have hbn1:=Kp hcm hne
                     first
                       | (exfalso; omega)
                       | (have hfw:Kr c w=false:=by
                            rw[hfn1]; clear hS hw hfr hnm hre hd1 hd2 hnw hfm hfe hlm hcn hcm hne hbn1; simp_all
                          have hbw:Kg c w=0:=by
                            rw[hbn1]; clear hS hw hfr hnm hre hd1 hd2 hnw hfm hfe hlm hcn hcm hne hfn1 hfw; simp_all
                          exact mtN eb ⟨hbw,by rw[hfw,dA],hS⟩)
                       | (have hfw:Kr c w=true:=by
                            rw[hfn1]; clear hS hw hfr hnm hre hd1 hd2 hnw hfm hfe hlm hcn hcm hne hbn1; simp_all
                          have hbw:Kg c w=0:=by
                            rw[hbn1]; clear hS hw hfr hnm hre hd1 hd2 hnw hfm hfe hlm hcn hcm hne hfn1 hfw; simp_all
                          exact mtN true ⟨hbw,by rw[hfw,dE],hS⟩)
                   · intro c71;refine b5 ?_;have hfn1:=KB (w:=w) hcm;have hbn1:=Kp hcm hne
                     first
                       | (exfalso; omega)
                       | (have hfw:Kr c w=false:=by
                            rw[hfn1]; clear hS hw hfr hnm hre hd1 hd2 hnw hfm hfe hlm hcn hcm hne hbn1; simp_all
                          have hbw:Kg c w=0:=by
                            rw[hbn1]; clear hS hw hfr hnm hre hd1 hd2 hnw hfm hfe hlm hcn hcm hne hfn1 hfw; simp_all
                          exact mtN eb ⟨hbw,by rw[hfw,dA],hS⟩)
                       | (have hfw:Kr c w=true:=by
                            rw[hfn1]; clear hS hw hfr hnm hre hd1 hd2 hnw hfm hfe hlm hcn hcm hne hbn1; simp_all
                          have hbw:Kg c w=0:=by
                            rw[hbn1]; clear hS hw hfr hnm hre hd1 hd2 hnw hfm hfe hlm hcn hcm hne hfn1 hfw; simp_all
                          exact mtN true ⟨hbw,by rw[hfw,dE],hS⟩)
                 · intro c71;refine Oc ?_;refine OC (dj:=80) rfl rfl true false rfl ?_ ?_
                   · intro g80;have g80:=of_decide_eq_true g80;refine bX ?_;refine Om ?_ ?_
                     · intro c71;refine bU ?_;refine Oj ?_;have hfn1:=KB (w:=w) hcm;have hbn1:=Kp hcm hne
                       first
                         | (exfalso; omega)
                         | (have hfw:Kr c w=false:=by
                              rw[hfn1]; clear hS hw hfr hnm hre hd1 hd2 hnw hfm hfe hlm hcn hcm hne hbn1; simp_all
                            have hbw:Kg c w=0:=by
                              rw[hbn1]; clear hS hw hfr hnm hre hd1 hd2 hnw hfm hfe hlm hcn hcm hne hfn1 hfw; simp_all
                            exact mtN eb ⟨hbw,by rw[hfw,dA],hS⟩)
                         | (have hfw:Kr c w=true:=by
                              rw[hfn1]; clear hS hw hfr hnm hre hd1 hd2 hnw hfm hfe hlm hcn hcm hne hbn1; simp_all
                            have hbw:Kg c w=0:=by
                              rw[hbn1]; clear hS hw hfr hnm hre hd1 hd2 hnw hfm hfe hlm hcn hcm hne hfn1 hfw; simp_all
                            exact mtN true ⟨hbw,by rw[hfw,dE],hS⟩)
                     · intro c71;refine b5 ?_;have hfn1:=KB (w:=w) hcm;have hbn1:=Kp hcm hne
                       first
                         | (exfalso; omega)
                         | (have hfw:Kr c w=false:=by
                              rw[hfn1]; clear hS hw hfr hnm hre hd1 hd2 hnw hfm hfe hlm hcn hcm hne hbn1; simp_all
                            have hbw:Kg c w=0:=by
                              rw[hbn1]; clear hS hw hfr hnm hre hd1 hd2 hnw hfm hfe hlm hcn hcm hne hfn1 hfw; simp_all
                            exact mtN eb ⟨hbw,by rw[hfw,dA],hS⟩)
                         | (have hfw:Kr c w=true:=by
                              rw[hfn1]; clear hS hw hfr hnm hre hd1 hd2 hnw hfm hfe hlm hcn hcm hne hbn1; simp_all
                            have hbw:Kg c w=0:=by
                              rw[hbn1]; clear hS hw hfr hnm hre hd1 hd2 hnw hfm hfe hlm hcn hcm hne hfn1 hfw; simp_all
                            exact mtN true ⟨hbw,by rw[hfw,dE],hS⟩)
                   · intro g80;have g80:=of_decide_eq_false g80;refine cd ?_;have hfn1:=KB (w:=w) hcm;have hbn1:=Kp hcm hne
                     first
                       | (exfalso; omega)
                       | (have hfw:Kr c w=false:=by
                            rw[hfn1]; clear hS hw hfr hnm hre hd1 hd2 hnw hfm hfe hlm hcn hcm hne hbn1; simp_all
                          have hbw:Kg c w=0:=by
                            rw[hbn1]; clear hS hw hfr hnm hre hd1 hd2 hnw hfm hfe hlm hcn hcm hne hfn1 hfw; simp_all
                          exact mtN eb ⟨hbw,by rw[hfw,dA],hS⟩)
                       | (have hfw:Kr c w=true:=by
                            rw[hfn1]; clear hS hw hfr hnm hre hd1 hd2 hnw hfm hfe hlm hcn hcm hne hbn1; simp_all
                          have hbw:Kg c w=0:=by
                            rw[hbn1]; clear hS hw hfr hnm hre hd1 hd2 hnw hfm hfe hlm hcn hcm hne hfn1 hfw; simp_all
                          exact mtN true ⟨hbw,by rw[hfw,dE],hS⟩)
               · intro g74;have g74:=of_decide_eq_false g74;refine bu ?_;refine ON ?_;refine Oc ?_;refine OC (dj:=80) rfl rfl true false rfl ?_ ?_
                 · intro g80;have g80:=of_decide_eq_true g80;refine bX ?_;refine Om ?_ ?_
                   · intro c71;refine bU ?_;refine Oj ?_;have hfn1:=KB (w:=w) hcm;have hbn1:=Kp hcm hne
                     first
                       | (exfalso; omega)
                       | (have hfw:Kr c w=false:=by
                            rw[hfn1]; clear hS hw hfr hnm hre hd1 hd2 hnw hfm hfe hlm hcn hcm hne hbn1; simp_all
                          have hbw:Kg c w=0:=by
                            rw[hbn1]; clear hS hw hfr hnm hre hd1 hd2 hnw hfm hfe hlm hcn hcm hne hfn1 hfw; simp_all
                          exact mtN eb ⟨hbw,by rw[hfw,dA],hS⟩)
                       | (have hfw:Kr c w=true:=by
                            rw[hfn1]; clear hS hw hfr hnm hre hd1 hd2 hnw hfm hfe hlm hcn hcm hne hbn1; simp_all
                          have hbw:Kg c w=0:=by
                            rw[hbn1]; clear hS hw hfr hnm hre hd1 hd2 hnw hfm hfe hlm hcn hcm hne hfn1 hfw; simp_all
                          exact mtN true ⟨hbw,by rw[hfw,dE],hS⟩)
                   · intro c71;refine b5 ?_;have hfn1:=KB (w:=w) hcm;have hbn1:=Kp hcm hne
                     first
                       | (exfalso; omega)
                       | (have hfw:Kr c w=false:=by
                            rw[hfn1]; clear hS hw hfr hnm hre hd1 hd2 hnw hfm hfe hlm hcn hcm hne hbn1; simp_all
                          have hbw:Kg c w=0:=by
                            rw[hbn1]; clear hS hw hfr hnm hre hd1 hd2 hnw hfm hfe hlm hcn hcm hne hfn1 hfw; simp_all
                          exact mtN eb ⟨hbw,by rw[hfw,dA],hS⟩)
                       | (have hfw:Kr c w=true:=by
                            rw[hfn1]; clear hS hw hfr hnm hre hd1 hd2 hnw hfm hfe hlm hcn hcm hne hbn1; simp_all
                          have hbw:Kg c w=0:=by
                            rw[hbn1]; clear hS hw hfr hnm hre hd1 hd2 hnw hfm hfe hlm hcn hcm hne hfn1 hfw; simp_all
                          exact mtN true ⟨hbw,by rw[hfw,dE],hS⟩)
                 · intro g80;have g80:=of_decide_eq_false g80;refine cd ?_;have hfn1:=KB (w:=w) hcm;have hbn1:=Kp hcm hne
                   first
                     | (exfalso; omega)
                     | (have hfw:Kr c w=false:=by
                          rw[hfn1]; clear hS hw hfr hnm hre hd1 hd2 hnw hfm hfe hlm hcn hcm hne hbn1; simp_all
                        have hbw:Kg c w=0:=by
                          rw[hbn1]; clear hS hw hfr hnm hre hd1 hd2 hnw hfm hfe hlm hcn hcm hne hfn1 hfw; simp_all
                        exact mtN eb ⟨hbw,by rw[hfw,dA],hS⟩)
                     | (have hfw:Kr c w=true:=by
                          rw[hfn1]; clear hS hw hfr hnm hre hd1 hd2 hnw hfm hfe hlm hcn hcm hne hbn1; simp_all
                        have hbw:Kg c w=0:=by
                          rw[hbn1]; clear hS hw hfr hnm hre hd1 hd2 hnw hfm hfe hlm hcn hcm hne hfn1 hfw; simp_all
                        exact mtN true ⟨hbw,by rw[hfw,dE],hS⟩)
         · intro g55;have g55:=of_decide_eq_false g55;refine Oa [4,6,7,9,10,11,38,52,56,57,58,59,60,61,62] ?_;refine ON ?_;refine Oc ?_;refine OC (dj:=67) rfl rfl true false rfl ?_ ?_
           · intro g67;have g67:=Qs g67;refine Oa [4,6,7,9,10,38,56,57,58,59,60,61,62,64,68,69] ?_;refine Kl ?_ ?_;intro c64;refine Oa [2,3] ?_;refine KA.ret ?_;refine blQ.ret ?_;refine mtQ.ret ?_;refine Og ?_;have hb0:Kg c w=9:=by
               rw[Kp hcm hne];clear hS hw hfr hnm hre hd1 hd2 hnw hfm hfe hlm hcn hcm hne;simp_all
             have hw0:KO f ((OG 32 l).drop 1)=9:=by
               rw[hw,KO,if_neg (by rw[hb0]; decide),hb0]
             have hq:Ku l=9:=by
               rw[hre,hw0,if_pos aD]
             exact⟨⟨_,rfl,by rw[hq],fun h0=>by rw[hq] at h0; cases h0⟩,hS.keeps⟩
             · intro c64;refine Oc ?_;refine OC (dj:=74) rfl rfl true false rfl ?_ ?_
               · intro g74;have g74:=of_decide_eq_true g74;refine bu ?_;refine Om ?_ ?_
                 · intro c71;refine Oy ?_;refine Od ?_;refine Om ?_ ?_
                   · intro c71;refine bU ?_;refine Oj ?_;have hfn1:=KB (w:=w) hcm;have hbn1:=Kp hcm hne
                     first
                       | (exfalso; omega)
                       | (have hfw:Kr c w=false:=by
                            rw[hfn1]; clear hS hw hfr hnm hre hd1 hd2 hnw hfm hfe hlm hcn hcm hne hbn1; simp_all
                          have hbw:Kg c w=0:=by
                            rw[hbn1]; clear hS hw hfr hnm hre hd1 hd2 hnw hfm hfe hlm hcn hcm hne hfn1 hfw; simp_all
                          exact mtN eb ⟨hbw,by rw[hfw,dA],hS⟩)
                       | (have hfw:Kr c w=true:=by
                            rw[hfn1]; clear hS hw hfr hnm hre hd1 hd2 hnw hfm hfe hlm hcn hcm hne hbn1; simp_all
                          have hbw:Kg c w=0:=by
                            rw[hbn1]; clear hS hw hfr hnm hre hd1 hd2 hnw hfm hfe hlm hcn hcm hne hfn1 hfw; simp_all
                          exact mtN true ⟨hbw,by rw[hfw,dE],hS⟩)
                   · intro c71;refine b5 ?_;have hfn1:=KB (w:=w) hcm;have hbn1:=Kp hcm hne
                     first
                       | (exfalso; omega)
                       | (have hfw:Kr c w=false:=by
                            rw[hfn1]; clear hS hw hfr hnm hre hd1 hd2 hnw hfm hfe hlm hcn hcm hne hbn1; simp_all
                          have hbw:Kg c w=0:=by
                            rw[hbn1]; clear hS hw hfr hnm hre hd1 hd2 hnw hfm hfe hlm hcn hcm hne hfn1 hfw; simp_all
                          exact mtN eb ⟨hbw,by rw[hfw,dA],hS⟩)
                       | (have hfw:Kr c w=true:=by
                            rw[hfn1]; clear hS hw hfr hnm hre hd1 hd2 hnw hfm hfe hlm hcn hcm hne hbn1; simp_all
                          have hbw:Kg c w=0:=by
                            rw[hbn1]; clear hS hw hfr hnm hre hd1 hd2 hnw hfm hfe hlm hcn hcm hne hfn1 hfw; simp_all
                          exact mtN true ⟨hbw,by rw[hfw,dE],hS⟩)
                 · intro c71;refine Oc ?_;refine OC (dj:=80) rfl rfl true false rfl ?_ ?_
                   · intro g80;have g80:=of_decide_eq_true g80;refine bX ?_;refine Om ?_ ?_
                     · intro c71;refine bU ?_;refine Oj ?_;have hfn1:=KB (w:=w) hcm;have hbn1:=Kp hcm hne
                       first
                         | (exfalso; omega)
                         | (have hfw:Kr c w=false:=by
                              rw[hfn1]; clear hS hw hfr hnm hre hd1 hd2 hnw hfm hfe hlm hcn hcm hne hbn1; simp_all
                            have hbw:Kg c w=0:=by
                              rw[hbn1]; clear hS hw hfr hnm hre hd1 hd2 hnw hfm hfe hlm hcn hcm hne hfn1 hfw; simp_all
                            exact mtN eb ⟨hbw,by rw[hfw,dA],hS⟩)
                         | (have hfw:Kr c w=true:=by
                              rw[hfn1]; clear hS hw hfr hnm hre hd1 hd2 hnw hfm hfe hlm hcn hcm hne hbn1; simp_all
                            have hbw:Kg c w=0:=by
                              rw[hbn1]; clear hS hw hfr hnm hre hd1 hd2 hnw hfm hfe hlm hcn hcm hne hfn1 hfw; simp_all
                            exact mtN true ⟨hbw,by rw[hfw,dE],hS⟩)
                     · intro c71;refine b5 ?_;have hfn1:=KB (w:=w) hcm;have hbn1:=Kp hcm hne
                       first
                         | (exfalso; omega)
                         | (have hfw:Kr c w=false:=by
                              rw[hfn1]; clear hS hw hfr hnm hre hd1 hd2 hnw hfm hfe hlm hcn hcm hne hbn1; simp_all
                            have hbw:Kg c w=0:=by
                              rw[hbn1]; clear hS hw hfr hnm hre hd1 hd2 hnw hfm hfe hlm hcn hcm hne hfn1 hfw; simp_all
                            exact mtN eb ⟨hbw,by rw[hfw,dA],hS⟩)
                         | (have hfw:Kr c w=true:=by
                              rw[hfn1]; clear hS hw hfr hnm hre hd1 hd2 hnw hfm hfe hlm hcn hcm hne hbn1; simp_all
                            have hbw:Kg c w=0:=by
                              rw[hbn1]; clear hS hw hfr hnm hre hd1 hd2 hnw hfm hfe hlm hcn hcm hne hfn1 hfw; simp_all
                            exact mtN true ⟨hbw,by rw[hfw,dE],hS⟩)
                   · intro g80;have g80:=of_decide_eq_false g80;refine cd ?_;have hfn1:=KB (w:=w) hcm;have hbn1:=Kp hcm hne
                     first
                       | (exfalso; omega)
                       | (have hfw:Kr c w=false:=by
                            rw[hfn1]; clear hS hw hfr hnm hre hd1 hd2 hnw hfm hfe hlm hcn hcm hne hbn1; simp_all
                          have hbw:Kg c w=0:=by
                            rw[hbn1]; clear hS hw hfr hnm hre hd1 hd2 hnw hfm hfe hlm hcn hcm hne hfn1 hfw; simp_all
                          exact mtN eb ⟨hbw,by rw[hfw,dA],hS⟩)
                       | (have hfw:Kr c w=true:=by
                            rw[hfn1]; clear hS hw hfr hnm hre hd1 hd2 hnw hfm hfe hlm hcn hcm hne hbn1; simp_all
                          have hbw:Kg c w=0:=by
                            rw[hbn1]; clear hS hw hfr hnm hre hd1 hd2 hnw hfm hfe hlm hcn hcm hne hfn1 hfw; simp_all
                          exact mtN true ⟨hbw,by rw[hfw,dE],hS⟩)
               · intro g74;have g74:=of_decide_eq_false g74;refine bu ?_;refine ON ?_;refine Oc ?_;refine OC (dj:=80) rfl rfl true false rfl ?_ ?_
                 · intro g80;have g80:=of_decide_eq_true g80;refine bX ?_;refine Om ?_ ?_
                   · intro c71;refine bU ?_;refine Oj ?_;have hfn1:=KB (w:=w) hcm;have hbn1:=Kp hcm hne
                     first
                       | (exfalso; omega)
                       | (have hfw:Kr c w=false:=by
                            rw[hfn1]; clear hS hw hfr hnm hre hd1 hd2 hnw hfm hfe hlm hcn hcm hne hbn1; simp_all
                          have hbw:Kg c w=0:=by
                            rw[hbn1]; clear hS hw hfr hnm hre hd1 hd2 hnw hfm hfe hlm hcn hcm hne hfn1 hfw; simp_all
                          exact mtN eb ⟨hbw,by rw[hfw,dA],hS⟩)
                       | (have hfw:Kr c w=true:=by
                            rw[hfn1]; clear hS hw hfr hnm hre hd1 hd2 hnw hfm hfe hlm hcn hcm hne hbn1; simp_all
                          have hbw:Kg c w=0:=by
                            rw[hbn1]; clear hS hw hfr hnm hre hd1 hd2 hnw hfm hfe hlm hcn hcm hne hfn1 hfw; simp_all
                          exact mtN true ⟨hbw,by rw[hfw,dE],hS⟩)
                   · intro c71;refine b5 ?_;have hfn1:=KB (w:=w) hcm;have hbn1:=Kp hcm hne
                     first
                       | (exfalso; omega)
                       | (have hfw:Kr c w=false:=by
                            rw[hfn1]; clear hS hw hfr hnm hre hd1 hd2 hnw hfm hfe hlm hcn hcm hne hbn1; simp_all
                          have hbw:Kg c w=0:=by
                            rw[hbn1]; clear hS hw hfr hnm hre hd1 hd2 hnw hfm hfe hlm hcn hcm hne hfn1 hfw; simp_all
                          exact mtN eb ⟨hbw,by rw[hfw,dA],hS⟩)
                       | (have hfw:Kr c w=true:=by
                            rw[hfn1]; clear hS hw hfr hnm hre hd1 hd2 hnw hfm hfe hlm hcn hcm hne hbn1; simp_all
                          have hbw:Kg c w=0:=by
                            rw[hbn1]; clear hS hw hfr hnm hre hd1 hd2 hnw hfm hfe hlm hcn hcm hne hfn1 hfw; simp_all
                          exact mtN true ⟨hbw,by rw[hfw,dE],hS⟩)
                 · intro g80;have g80:=of_decide_eq_false g80;refine cd ?_;have hfn1:=KB (w:=w) hcm;have hbn1:=Kp hcm hne
                   first
                     | (exfalso; omega)
                     | (have hfw:Kr c w=false:=by
                          rw[hfn1]; clear hS hw hfr hnm hre hd1 hd2 hnw hfm hfe hlm hcn hcm hne hbn1; simp_all
                        have hbw:Kg c w=0:=by
                          rw[hbn1]; clear hS hw hfr hnm hre hd1 hd2 hnw hfm hfe hlm hcn hcm hne hfn1 hfw; simp_all
                        exact mtN eb ⟨hbw,by rw[hfw,dA],hS⟩)
                     | (have hfw:Kr c w=true:=by
                          rw[hfn1]; clear hS hw hfr hnm hre hd1 hd2 hnw hfm hfe hlm hcn hcm hne hbn1; simp_all
                        have hbw:Kg c w=0:=by
                          rw[hbn1]; clear hS hw hfr hnm hre hd1 hd2 hnw hfm hfe hlm hcn hcm hne hfn1 hfw; simp_all
                        exact mtN true ⟨hbw,by rw[hfw,dE],hS⟩)
           · intro g67;have g67:=Q2 g67;refine Oa [4,6,7,9,10,38,56,57,58,59,60,61,62,64,68,69] ?_;refine ON ?_;refine Oc ?_;refine OC (dj:=74) rfl rfl true false rfl ?_ ?_
             · intro g74;have g74:=of_decide_eq_true g74;refine bu ?_;refine Om ?_ ?_
               · intro c71;refine Oy ?_;refine Od ?_;refine Om ?_ ?_
                 · intro c71;refine bU ?_;refine Oj ?_;have hfn1:=KB (w:=w) hcm;have hbn1:=Kp hcm hne
                   first
                     | (exfalso; omega)
                     | (have hfw:Kr c w=false:=by
                          rw[hfn1]; clear hS hw hfr hnm hre hd1 hd2 hnw hfm hfe hlm hcn hcm hne hbn1; simp_all
                        have hbw:Kg c w=0:=by
                          rw[hbn1]; clear hS hw hfr hnm hre hd1 hd2 hnw hfm hfe hlm hcn hcm hne hfn1 hfw; simp_all
                        exact mtN eb ⟨hbw,by rw[hfw,dA],hS⟩)
                     | (have hfw:Kr c w=true:=by
                          rw[hfn1]; clear hS hw hfr hnm hre hd1 hd2 hnw hfm hfe hlm hcn hcm hne hbn1; simp_all
                        have hbw:Kg c w=0:=by
                          rw[hbn1]; clear hS hw hfr hnm hre hd1 hd2 hnw hfm hfe hlm hcn hcm hne hfn1 hfw; simp_all
                        exact mtN true ⟨hbw,by rw[hfw,dE],hS⟩)
                 · intro c71;refine b5 ?_;have hfn1:=KB (w:=w) hcm;have hbn1:=Kp hcm hne
                   first
                     | (exfalso; omega)
                     | (have hfw:Kr c w=false:=by
                          rw[hfn1]; clear hS hw hfr hnm hre hd1 hd2 hnw hfm hfe hlm hcn hcm hne hbn1; simp_all
                        have hbw:Kg c w=0:=by
                          rw[hbn1]; clear hS hw hfr hnm hre hd1 hd2 hnw hfm hfe hlm hcn hcm hne hfn1 hfw; simp_all
                        exact mtN eb ⟨hbw,by rw[hfw,dA],hS⟩)
                     | (have hfw:Kr c w=true:=by
                          rw[hfn1]; clear hS hw hfr hnm hre hd1 hd2 hnw hfm hfe hlm hcn hcm hne hbn1; simp_all
                        have hbw:Kg c w=0:=by
                          rw[hbn1]; clear hS hw hfr hnm hre hd1 hd2 hnw hfm hfe hlm hcn hcm hne hfn1 hfw; simp_all
                        exact mtN true ⟨hbw,by rw[hfw,dE],hS⟩)
               · intro c71;refine Oc ?_;refine OC (dj:=80) rfl rfl true false rfl ?_ ?_
                 · intro g80;have g80:=of_decide_eq_true g80;refine bX ?_;refine Om ?_ ?_
                   · intro c71;refine bU ?_;refine Oj ?_;have hfn1:=KB (w:=w) hcm;have hbn1:=Kp hcm hne
                     first
                       | (exfalso; omega)
                       | (have hfw:Kr c w=false:=by
                            rw[hfn1]; clear hS hw hfr hnm hre hd1 hd2 hnw hfm hfe hlm hcn hcm hne hbn1; simp_all
                          have hbw:Kg c w=0:=by
                            rw[hbn1]; clear hS hw hfr hnm hre hd1 hd2 hnw hfm hfe hlm hcn hcm hne hfn1 hfw; simp_all
                          exact mtN eb ⟨hbw,by rw[hfw,dA],hS⟩)
                       | (have hfw:Kr c w=true:=by
                            rw[hfn1]; clear hS hw hfr hnm hre hd1 hd2 hnw hfm hfe hlm hcn hcm hne hbn1; simp_all
                          have hbw:Kg c w=0:=by
                            rw[hbn1]; clear hS hw hfr hnm hre hd1 hd2 hnw hfm hfe hlm hcn hcm hne hfn1 hfw; simp_all
                          exact mtN true ⟨hbw,by rw[hfw,dE],hS⟩)
                   · intro c71;refine b5 ?_;have hfn1:=KB (w:=w) hcm;have hbn1:=Kp hcm hne
                     first
                       | (exfalso; omega)
                       | (have hfw:Kr c w=false:=by
                            rw[hfn1]; clear hS hw hfr hnm hre hd1 hd2 hnw hfm hfe hlm hcn hcm hne hbn1; simp_all
                          have hbw:Kg c w=0:=by
                            rw[hbn1]; clear hS hw hfr hnm hre hd1 hd2 hnw hfm hfe hlm hcn hcm hne hfn1 hfw; simp_all
                          exact mtN eb ⟨hbw,by rw[hfw,dA],hS⟩)
                       | (have hfw:Kr c w=true:=by
                            rw[hfn1]; clear hS hw hfr hnm hre hd1 hd2 hnw hfm hfe hlm hcn hcm hne hbn1; simp_all
                          have hbw:Kg c w=0:=by
                            rw[hbn1]; clear hS hw hfr hnm hre hd1 hd2 hnw hfm hfe hlm hcn hcm hne hfn1 hfw; simp_all
                          exact mtN true ⟨hbw,by rw[hfw,dE],hS⟩)
                 · intro g80;have g80:=of_decide_eq_false g80;refine cd ?_;have hfn1:=KB (w:=w) hcm;have hbn1:=Kp hcm hne
                   first
                     | (exfalso; omega)
                     | (have hfw:Kr c w=false:=by
                          rw[hfn1]; clear hS hw hfr hnm hre hd1 hd2 hnw hfm hfe hlm hcn hcm hne hbn1; simp_all
                        have hbw:Kg c w=0:=by
                          rw[hbn1]; clear hS hw hfr hnm hre hd1 hd2 hnw hfm hfe hlm hcn hcm hne hfn1 hfw; simp_all
                        exact mtN eb ⟨hbw,by rw[hfw,dA],hS⟩)
                     | (have hfw:Kr c w=true:=by
                          rw[hfn1]; clear hS hw hfr hnm hre hd1 hd2 hnw hfm hfe hlm hcn hcm hne hbn1; simp_all
                        have hbw:Kg c w=0:=by
                          rw[hbn1]; clear hS hw hfr hnm hre hd1 hd2 hnw hfm hfe hlm hcn hcm hne hfn1 hfw; simp_all
                        exact mtN true ⟨hbw,by rw[hfw,dE],hS⟩)
             · intro g74;have g74:=of_decide_eq_false g74;refine bu ?_;refine ON ?_;refine Oc ?_;refine OC (dj:=80) rfl rfl true false rfl ?_ ?_
               · intro g80;have g80:=of_decide_eq_true g80;refine bX ?_;refine Om ?_ ?_
                 · intro c71;refine bU ?_;refine Oj ?_;have hfn1:=KB (w:=w) hcm;have hbn1:=Kp hcm hne
                   first
                     | (exfalso; omega)
                     | (have hfw:Kr c w=false:=by
                          rw[hfn1]; clear hS hw hfr hnm hre hd1 hd2 hnw hfm hfe hlm hcn hcm hne hbn1; simp_all
                        have hbw:Kg c w=0:=by
                          rw[hbn1]; clear hS hw hfr hnm hre hd1 hd2 hnw hfm hfe hlm hcn hcm hne hfn1 hfw; simp_all
                        exact mtN eb ⟨hbw,by rw[hfw,dA],hS⟩)
                     | (have hfw:Kr c w=true:=by
                          rw[hfn1]; clear hS hw hfr hnm hre hd1 hd2 hnw hfm hfe hlm hcn hcm hne hbn1; simp_all
                        have hbw:Kg c w=0:=by
                          rw[hbn1]; clear hS hw hfr hnm hre hd1 hd2 hnw hfm hfe hlm hcn hcm hne hfn1 hfw; simp_all
                        exact mtN true ⟨hbw,by rw[hfw,dE],hS⟩)
                 · intro c71;refine b5 ?_;have hfn1:=KB (w:=w) hcm;have hbn1:=Kp hcm hne
                   first
                     | (exfalso; omega)
                     | (have hfw:Kr c w=false:=by
                          rw[hfn1]; clear hS hw hfr hnm hre hd1 hd2 hnw hfm hfe hlm hcn hcm hne hbn1; simp_all
                        have hbw:Kg c w=0:=by
                          rw[hbn1]; clear hS hw hfr hnm hre hd1 hd2 hnw hfm hfe hlm hcn hcm hne hfn1 hfw; simp_all
                        exact mtN eb ⟨hbw,by rw[hfw,dA],hS⟩)
                     | (have hfw:Kr c w=true:=by
                          rw[hfn1]; clear hS hw hfr hnm hre hd1 hd2 hnw hfm hfe hlm hcn hcm hne hbn1; simp_all
                        have hbw:Kg c w=0:=by
                          rw[hbn1]; clear hS hw hfr hnm hre hd1 hd2 hnw hfm hfe hlm hcn hcm hne hfn1 hfw; simp_all
                        exact mtN true ⟨hbw,by rw[hfw,dE],hS⟩)
               · intro g80;have g80:=of_decide_eq_false g80;refine cd ?_;have hfn1:=KB (w:=w) hcm;have hbn1:=Kp hcm hne
                 first
                   | (exfalso; omega)
                   | (have hfw:Kr c w=false:=by
                        rw[hfn1]; clear hS hw hfr hnm hre hd1 hd2 hnw hfm hfe hlm hcn hcm hne hbn1; simp_all
                      have hbw:Kg c w=0:=by
                        rw[hbn1]; clear hS hw hfr hnm hre hd1 hd2 hnw hfm hfe hlm hcn hcm hne hfn1 hfw; simp_all
                      exact mtN eb ⟨hbw,by rw[hfw,dA],hS⟩)
                   | (have hfw:Kr c w=true:=by
                        rw[hfn1]; clear hS hw hfr hnm hre hd1 hd2 hnw hfm hfe hlm hcn hcm hne hbn1; simp_all
                      have hbw:Kg c w=0:=by
                        rw[hbn1]; clear hS hw hfr hnm hre hd1 hd2 hnw hfm hfe hlm hcn hcm hne hfn1 hfw; simp_all
                      exact mtN true ⟨hbw,by rw[hfw,dE],hS⟩)
       ·
         rintro y h3 ⟨hbad,hyy,hS⟩;refine Oa [4,6,7,10,38,85] ?_;refine Kf ?_ ?_;intro c85;refine bU ?_;refine Oj ?_;have hc9:c≠119:=fun e=>c85 (by rw[e]; rfl)
         have hnum:K3 w 3=true:=by
           rw[Kg,if_neg hc9] at hbad;by_cases q:K3 w 3=true;exact q;rw[if_neg q] at hbad; cases hbad
         rw[KO,if_pos hbad] at hw;rw[YO,←Bool.or_assoc,←hyy] at hfr;rw[YS,if_neg hc9] at hnm;exact Qd (p+1,y,Qf w) (by repeat (first|exact Sub.nil _|refine Sub.cons Look.eq ?_|refine Sub.cons (Eq.trans Look.eq (congrArg (AV.int _) aM)) ?_|refine Sub.cons (Eq.trans Look.eq (by rw[if_pos hnum])) ?_)) ⟨hlt,hw,hfr,hnm,hS⟩ aK;intro c85;refine b5 ?_;have hc9:c=119:=hcn.1.1 aA;rw[KO,if_pos hbad] at hw;rw[YO,←Bool.or_assoc,←hyy] at hfr;rw[YS,if_pos hc9] at hnm;exact lpN (p+1,y,n) ⟨hlt,hw,hfr,hnm,hS⟩ aK
      intro np;refine K5 ?_;refine bl ?_;refine ON ?_;refine bQ ?_;refine Oq [4,6,7] ?_;refine Oa [4,6,7,88] ?_;refine Kf ?_ ?_;intro c88;refine b4 ?_;have hpe:p=f.length:=by rw[wd_size] at np; omega
      subst hpe;rw[dB] at hw hfr hnm;simp only[KO,YO,dA,YS] at hw hfr hnm;have hq:Ku l=1:=by
       cases eb;exact absurd rfl c88;rw[hre,hw,hfr]; simp
      rw[show(if eb=true then (1:Int) else 0)=1 by cases eb; exact absurd rfl c88; rfl];exact⟨⟨_,rfl,by rw[hq],fun h0=>by rw[hq] at h0; cases h0⟩,hS.keeps⟩;intro c88;refine OB [4,6] ?_;refine Oc ?_;refine Oi rfl (told_c (hS.rd 1 rfl) (by rw[hfe]; exact hfl) (by rw[hfe]; exact hfn)) ?_;rintro _ _ ⟨rfl,rfl⟩;refine b4 ?_;have hpe:p=f.length:=by rw[wd_size] at np; omega
      subst hpe;rw[dB] at hw hfr hnm;simp only[KO,YO,dA,YS] at hw hfr hnm;have hq:Ku l=0:=by
       cases eb;rw[hre,hw,hfr]; simp;rw[if_pos rfl] at c88; cases c88
      refine⟨⟨_,tellV_one (Qn (OG 32 l) n),by rw[hq],fun _=>?_⟩,hS.keeps⟩;unfold Kv;simp only[hfe,hnm]
  intro g19;have g19:=of_decide_eq_true g19;refine Oa [4,22] ?_;refine KN ?_;refine b4 ?_;have hq:Ku l=9:=by
   unfold Ku; simp only[]; rw[if_neg aA,if_pos (.inl g19)]
  exact⟨⟨_,rfl,by rw[hq],fun h0=>by rw[hq] at h0; cases h0⟩,hS.keeps⟩
end Go.Am
