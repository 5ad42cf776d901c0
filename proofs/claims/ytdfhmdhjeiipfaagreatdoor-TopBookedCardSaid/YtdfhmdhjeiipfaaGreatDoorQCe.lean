/-
  Tops: turned from layer 14: Ce.
  Conditions: none.
-/
import Derived.Test.YtdfhmdhjeiipfaaGreatDoorQCd
open Bool renaming or_false → dO, or_true → dU
open List renaming getD_eq_getElem?_getD → dY, getElem?_eq_getElem → dM, length_cons → dN, getElem_mem → dP, drop_length → dQ, nil_append → dR
set_option maxRecDepth 99999
set_option maxHeartbeats 4000000
namespace Go.Am
theorem Sg (c:UInt8):∀ (l:Str) (w:Str),w∈Kg c l→w.length≤l.length:=by
 intro l
 induction l with
 | nil=>intro w hw; simp[Kg] at hw; subst hw; exact Nat.le_refl _
 | cons a l ih=>
  intro w hw;simp only[Kg] at hw;split at hw;rcases List.mem_cons.1 hw with rfl|hw
  exact Nat.zero_le _;have:=ih w hw; rw[dN]; omega;split at hw;rename_i x xs he;rcases List.mem_cons.1 hw with rfl|hw
  have:=ih x (by rw[he]; exact List.mem_cons_self);rw[dN,dN]; omega;have:=ih w (by rw[he]; exact List.mem_cons_of_mem _ hw); rw[dN]; omega;simp at hw; subst hw; simp
theorem splitC_len (c:UInt8):∀ l:Str,(Kg c l).length≤l.length+1:=by
 intro l
 induction l with
 | nil=>simp[Kg]
 | cons a l ih=>
  simp only[Kg];split;simp; omega;split;rename_i x xs he; rw[he] at ih; simp at ih⊢; omega;simp
theorem formL_mem (k:Str):∀ c∈O4 k,c=119∨c=110∨c=112:=by
 intro c hc;unfold O4 at hc;split at hc;simp at hc; simp[hc];split at hc;simp at hc; simp[hc];split at hc;simp at hc; rcases hc with rfl|rfl <;> simp
 split at hc;simp at hc; rcases hc with rfl|rfl <;> simp
 split at hc;simp at hc; simp[hc];cases hc
theorem RY (k:Str):(O4 k).length≤3:=by
 unfold O4;split;decide;split;decide;split;decide;split;decide;split <;> decide
theorem drop_at {α:Type} [Inhabited α] {l:List α} {p:Nat} {d : α} (h:p<l.length):l.drop p=l.getD p d::l.drop (p+1):=by
 rw[List.drop_eq_getElem_cons h,dY,dM h,Option.getD_some]
theorem getD_drop1 (l:List Str) (p:Nat):(l.drop 1).getD p []=l.getD (p+1) []:=by
 rw[dY,List.getElem?_drop,dY,Nat.add_comm]
theorem getD_small {c:UInt8} {l:Str} {p:Nat}:((Kg c l).getD p []).length≤l.length:=by
 rw[dY];by_cases h:p<(Kg c l).length;rw[dM h]; exact Sg c l _ (dP h);rw[List.getElem?_eq_none aA]; exact Nat.zero_le _
theorem isName_of {w:Str} (h:w≠[]):isName w=Um w:=by
 unfold isName Um;rw[decide_eq_true h,Bool.true_and]
theorem Kx {c:UInt8} {w:Str} (hcm:c=119∨c=110∨c=112):Kq c w=((decide ((c.toNat:Int)=112) && decide (ZW w=0)) || (decide ((c.toNat:Int)=110) && decide (99<ZW w))):=by
 unfold Kq;rcases hcm with q|q|q <;> subst q <;> rfl
theorem Ko {c:UInt8} {w:Str} (hcm:c=119∨c=110∨c=112) (hne:w≠[]):Kl c w=if (c.toNat:Int)=119 then (if Um w then 0 else 10) else if Qq w 3 then 0 else 9:=by
 unfold Kl;rw[isName_of hne];rcases hcm with q|q|q <;> subst q <;> rfl
theorem tellV_one (t:Tell):(KJ t).one=true:=by cases t <;> rfl
structure Vs (h:AHeap):Prop where
  sz:Sizes h
  mx:Mx h
  pw:Pow h
theorem Vs.ext {h h':AHeap} (z:Vs h) (k:Keeps h h'):Vs h':=⟨z.sz.ext k,z.mx.ext k,z.pw.ext k⟩
theorem read_c {h:AHeap} {l:Str} (hM:Mx h) (hl:l.length≤1000000):ACalls Go.Proofs.Tryz.prog 92 [.str (wdQ l)] h (fun q h'=>(∃ v,v.one=true∧q = .tup [v,.int .i64 (KH l)]∧(KH l=0→v=KJ (Qa l)))∧Keeps h h'):=by
 refine OI 93 [.tmp 2,.tmp 3] Go.Proofs.Tryz.func92 rfl aE rfl rfl (Nat.le_of_ble_eq_true rfl) ?_;have hS:=St.refl h;show KA _ 93 _ _ [(0,.str (wdQ l))] _;refine Oa [0] ?_;refine Oa [0,14] ?_;refine Om ?_ ?_;intro c14;refine bt ?_;have hq:KH l=19:=by
  unfold KH; rw[if_pos aA]
 exact⟨⟨_,rfl,by rw[hq],fun h0=>by rw[hq] at h0; cases h0⟩,hS.keeps⟩
 ·intro c14;refine OC [0] ?_;refine Oc ?_;refine Ol rfl (split_c hM hl) ?_;rintro v16 h16 ⟨hsl,hS16⟩;replace hS:St _ _ (_::_):=St.trans hS hS16;refine Oa [0,4] ?_;refine bu ?_;have hln:=splitC_len 32 l;have hlm:=@getD_small 32 l;have hl0:=List.length_pos_iff.2 (splitC_ne 32 l);refine Of ?_;refine Ol rfl (Yn (hS.rd 0 rfl) aA) ?_;rintro _ _ ⟨rfl,rfl⟩;refine Of ?_;refine Ow (dj:=19) rfl rfl false true rfl ?_ ?_
  ·intro g19;have g19:=of_decide_eq_false g19;refine Oc ?_;refine Ol rfl (Tk hl) ?_;rintro _ hx ⟨rfl,hK⟩;replace hS:St _ _ _:=St.trans hS (St.ofK hK);simp only[dR] at hS;refine Oa [4,22] ?_;refine Km ?_ ?_;intro c22;refine bt ?_;have hq:KH l=9:=by
    unfold KH; simp only[]; rw[if_neg aA,if_pos (.inr (show l.any VH=true from c22))]
   exact⟨⟨_,rfl,by rw[hq],fun h0=>by rw[hq] at h0; cases h0⟩,hS.keeps⟩
   ·intro c22;refine OC [4] ?_;refine Oc ?_;refine OD (hS.rd 0 rfl) (j:=0) rfl aF ?_;intro p24 hp24;refine Kv hp24 (hS.rd 0 rfl) aF ?_;refine Ol rfl (form_c) ?_;rintro _ _ ⟨rfl,rfl⟩;refine Oa [4,5] ?_;refine bg ?_;refine Oa [4,5,27] ?_;refine Om ?_ ?_;intro c27;refine bt ?_;have hq:KH l=8:=by
     unfold KH; simp only[]; rw[if_neg aA,if_neg aj,if_pos c27]
    exact⟨⟨_,rfl,by rw[hq],fun h0=>by rw[hq] at h0; cases h0⟩,hS.keeps⟩
    ·intro c27;refine Oq ?_;have hf3:=RY ((Kg 32 l).getD 0 []);refine Of ?_;refine Kk (hS.rd 0 rfl) ?_;refine Oa [4,5,30] ?_;refine Kc ?_ ?_;intro c30;refine bt ?_;have hq:KH l=5:=by
      unfold KH; simp only[]; rw[if_neg aA,if_neg aj,if_neg c27,if_pos aA]
     exact⟨⟨_,rfl,by rw[hq],fun h0=>by rw[hq] at h0; cases h0⟩,hS.keeps⟩
     ·intro c30;refine b3 ?_;refine Ox [4,5] ?_;refine Oq ?_;obtain⟨hfn,hfl⟩:O4 ((Kg 32 l).getD 0 [])≠[]∧(Kg 32 l).length=(O4 ((Kg 32 l).getD 0 [])).length+1:=⟨c27,by omega⟩;have hf3:=RY ((Kg 32 l).getD 0 []);have hfm:=formL_mem ((Kg 32 l).getD 0 []);generalize hfe:O4 ((Kg 32 l).getD 0 [])=f at *;have hre:KH l=if QT f ((Kg 32 l).drop 1)≠0 then QT f ((Kg 32 l).drop 1) else if VI f ((Kg 32 l).drop 1) then 1 else 0:=by
       unfold KH;simp only[hfe];rw[if_neg aA,if_neg (by intro h; rcases h with h|h; exact g19 h; rw[show(fun c:UInt8=>decide (c.toNat<32∨126<c.toNat))=VH from rfl] at h; simp[h] at c22),if_neg hfn,if_neg aA]
      have hnw:∀ p,p<f.length→(Kg 32 l).getD (p+1) []≠[]:=by
       intro p hp he;refine g19 ?_;rw[dY,dM (show p+1<(Kg 32 l).length by omega),Option.getD_some] at he;rw[←he];exact dP _
      refine bc ?_;refine Oc ?_;refine KOps.range hS rfl ?_;intro v38 h' hv38 hS;refine On [4,6,7,38] ?_;refine Oz ?_;refine Kb (X:=Nat × Bool × Int) (fun x=>[(4,v16),(6,.int .i64 x.2.2),(7,.int .i64 (if x.2.1 then 1 else 0)),(38,v38)]) (fun x h'=>x.1≤f.length∧QT f ((Kg 32 l).drop 1)=QT (f.drop x.1) (((Kg 32 l).drop 1).drop x.1)∧VI f ((Kg 32 l).drop 1)=(x.2.1 || VI (f.drop x.1) (((Kg 32 l).drop 1).drop x.1))∧VN f ((Kg 32 l).drop 1) 0=VN (f.drop x.1) (((Kg 32 l).drop 1).drop x.1) x.2.2∧St h h' [walkO v38 (wdQ f) x.1,⟨v16,1,wcsQ (Kg 32 l),true⟩]) (fun x=>f.length - x.1) (0,false,0) ?_ ?_;exact⟨Nat.zero_le _,rfl,by simp,rfl,hS⟩;rintro⟨p,eb,n⟩ h2 ⟨hp,hw,hfr,hnm,hS⟩;dsimp only at hp hw hfr hnm hS⊢;refine Oq ?_;refine KOps.next hS hv38 (i:=0) rfl rfl ?_ ?_
      ·intro np h' hS;simp only[List.set_cons_zero,List.set_cons_succ,Nat.zero_add] at hS;have hlt:p<f.length:=by rw[wd_size] at np; exact np
       have hcm:=hfm (f.getD p 0) (by rw[dY,dM hlt,Option.getD_some]; exact dP hlt);have hc8:(f.getD p 0).toNat<128:=by rcases hcm with q|q|q <;> rw[q] <;> decide
       simp only[YN hlt hc8] at hS⊢;have hd1:=drop_at (d:=(0:UInt8)) hlt;have hd2:=drop_at (l:=(Kg 32 l).drop 1) (p:=p) (d:=([]:Str)) (by rw[List.length_drop]; omega);rw[getD_drop1] at hd2;rw[hd1,hd2] at hw hfr hnm;have hne:=hnw p hlt;generalize hce:f.getD p 0=c at *;obtain⟨w,hwe⟩:∃ w,(Kg 32 l).getD (p+1) []=w:=⟨_,rfl⟩;rw[hwe] at hne hw hfr hnm;have hwl:w.length≤1000000:=by have:=hlm (p:=p+1); rw[hwe] at this; omega
       have hcn:(c.toNat=119↔c=119)∧(c.toNat=110↔c=110)∧(c.toNat=112↔c=112):=by
        rcases hcm with q|q|q <;> rw[q] <;> decide
       refine dC ?_;refine KL ?_;refine OC [4,6,7,38,39] ?_;refine Oz ?_;refine Oa [4,6,7,8,9,38] ?_;refine Oc ?_;refine OD (hS.rd 1 rfl) (j:=_) rfl aF ?_;intro p47 hp47;refine Kv hp47 (hS.rd 1 rfl) aF ?_;rw[hwe];refine Ol rfl (number_c (m:=3) aE hwl) ?_;rintro _ hx ⟨rfl,hK⟩;replace hS:St _ _ _:=St.trans hS (St.ofK hK);simp only[dR] at hS;refine Oa [4,6,7,8,9,10,11,38] ?_;refine KA.meet (X:=Bool) (fun y=>[(4,v16),(6,.int .i64 n),(7,.int .i64 (if y then 1 else 0)),(9,.int .i32 (c.toNat:Int)),(10,.int .i64 (if Qq w 3 then ZW w else 0)),(38,v38)]) (fun y h'=>Kl c w=0∧y=(eb || Kq c w)∧St h h' [walkO v38 (wdQ f) (p+1),⟨v16,1,wcsQ (Kg 32 l),true⟩]) ?_ ?_
       ·
         refine Oz ?_;refine Oc ?_;refine Ow (dj:=55) rfl rfl true false rfl ?_ ?_
         · intro g55;have g55:=of_decide_eq_true g55;refine Oc ?_;refine OD (hS.rd 1 rfl) (j:=_) rfl aF ?_;intro p59 hp59;refine Oi (dj:=55) rfl rfl ?_;refine Kv hp59 (hS.rd 1 rfl) aF ?_;rw[hwe];refine Oi (dj:=55) rfl rfl ?_;refine Ol rfl (named_c hwl) ?_;rintro _ _ ⟨rfl,rfl⟩;refine Oa [4,6,7,9,10,11,38,52,56,57,58,59,60,61,62] ?_;refine Km ?_ ?_;intro c52;refine Oa [2,3] ?_;refine Kn ?_;refine Q1 ?_;refine mtQ.ret ?_;refine Oh ?_;have hb0:Kl c w=10:=by
             rw[Ko hcm hne];clear hS hw hfr hnm hre hd1 hd2 hnw hfm hfe hlm hcn hcm hne;simp_all
           have hw0:QT f ((Kg 32 l).drop 1)=10:=by
             rw[hw,QT,if_neg (by rw[hb0]; decide),hb0]
           have hq:KH l=10:=by
             rw[hre,hw0,if_pos aE]
           exact⟨⟨_,rfl,by rw[hq],fun h0=>by rw[hq] at h0; cases h0⟩,hS.keeps⟩
           · intro c52;refine Oc ?_;refine Ow (dj:=67) rfl rfl true false rfl ?_ ?_
             · intro g67;have g67:=ZC g67;refine Oa [4,6,7,9,10,38,56,57,58,59,60,61,62,64,68,69] ?_;refine Km ?_ ?_;intro c64;refine Oa [2,3] ?_;refine Kn ?_;refine Q1 ?_;refine mtQ.ret ?_;refine Oh ?_;have hb0:Kl c w=9:=by
                 rw[Ko hcm hne];clear hS hw hfr hnm hre hd1 hd2 hnw hfm hfe hlm hcn hcm hne;simp_all
               have hw0:QT f ((Kg 32 l).drop 1)=9:=by
                 rw[hw,QT,if_neg (by rw[hb0]; decide),hb0]
               have hq:KH l=9:=by
                 rw[hre,hw0,if_pos aE]
               exact⟨⟨_,rfl,by rw[hq],fun h0=>by rw[hq] at h0; cases h0⟩,hS.keeps⟩
               · intro c64;refine Oc ?_;refine Ow (dj:=74) rfl rfl true false rfl ?_ ?_
                 · intro g74;have g74:=of_decide_eq_true g74;refine bz ?_;refine Om ?_ ?_
                   · intro c71;refine OB ?_;refine Od ?_;refine Om ?_ ?_
                     · intro c71;refine cj ?_;have hfn1:=Kx (w:=w) hcm;have hbn1:=Ko hcm hne
                       first
                         | (exfalso; omega)
                         | (have hfw:Kq c w=false:=by
                              rw[hfn1]; clear hS hw hfr hnm hre hd1 hd2 hnw hfm hfe hlm hcn hcm hne hbn1; simp_all
                            have hbw:Kl c w=0:=by
                              rw[hbn1]; clear hS hw hfr hnm hre hd1 hd2 hnw hfm hfe hlm hcn hcm hne hfn1 hfw; simp_all
                            exact mtN eb ⟨hbw,by rw[hfw,dO],hS⟩)
                         | (have hfw:Kq c w=true:=by
                              rw[hfn1]; clear hS hw hfr hnm hre hd1 hd2 hnw hfm hfe hlm hcn hcm hne hbn1; simp_all
                            have hbw:Kl c w=0:=by
                              rw[hbn1]; clear hS hw hfr hnm hre hd1 hd2 hnw hfm hfe hlm hcn hcm hne hfn1 hfw; simp_all
                            exact mtN true ⟨hbw,by rw[hfw,dU],hS⟩)
                     · intro c71;refine b8 ?_;have hfn1:=Kx (w:=w) hcm;have hbn1:=Ko hcm hne
                       first
                         | (exfalso; omega)
                         | (have hfw:Kq c w=false:=by
                              rw[hfn1]; clear hS hw hfr hnm hre hd1 hd2 hnw hfm hfe hlm hcn hcm hne hbn1; simp_all
                            have hbw:Kl c w=0:=by
                              rw[hbn1]; clear hS hw hfr hnm hre hd1 hd2 hnw hfm hfe hlm hcn hcm hne hfn1 hfw; simp_all
                            exact mtN eb ⟨hbw,by rw[hfw,dO],hS⟩)
                         | (have hfw:Kq c w=true:=by
                              rw[hfn1]; clear hS hw hfr hnm hre hd1 hd2 hnw hfm hfe hlm hcn hcm hne hbn1; simp_all
                            have hbw:Kl c w=0:=by
                              rw[hbn1]; clear hS hw hfr hnm hre hd1 hd2 hnw hfm hfe hlm hcn hcm hne hfn1 hfw; simp_all
                            exact mtN true ⟨hbw,by rw[hfw,dU],hS⟩)
                   · intro c71;refine Oc ?_;refine Ow (dj:=80) rfl rfl true false rfl ?_ ?_
                     · intro g80;have g80:=of_decide_eq_true g80;refine bY ?_;refine Om ?_ ?_
                       · intro c71;refine cj ?_;have hfn1:=Kx (w:=w) hcm;have hbn1:=Ko hcm hne
                         first
                           | (exfalso; omega)
                           | (have hfw:Kq c w=false:=by
                                rw[hfn1]; clear hS hw hfr hnm hre hd1 hd2 hnw hfm hfe hlm hcn hcm hne hbn1; simp_all
                              have hbw:Kl c w=0:=by
                                rw[hbn1]; clear hS hw hfr hnm hre hd1 hd2 hnw hfm hfe hlm hcn hcm hne hfn1 hfw; simp_all
                              exact mtN eb ⟨hbw,by rw[hfw,dO],hS⟩)
                           | (have hfw:Kq c w=true:=by
                                rw[hfn1]; clear hS hw hfr hnm hre hd1 hd2 hnw hfm hfe hlm hcn hcm hne hbn1; simp_all
                              have hbw:Kl c w=0:=by
                                rw[hbn1]; clear hS hw hfr hnm hre hd1 hd2 hnw hfm hfe hlm hcn hcm hne hfn1 hfw; simp_all
                              exact mtN true ⟨hbw,by rw[hfw,dU],hS⟩)
                       · intro c71;refine b8 ?_;have hfn1:=Kx (w:=w) hcm;have hbn1:=Ko hcm hne
                         first
                           | (exfalso; omega)
                           | (have hfw:Kq c w=false:=by
                                rw[hfn1]; clear hS hw hfr hnm hre hd1 hd2 hnw hfm hfe hlm hcn hcm hne hbn1; simp_all
                              have hbw:Kl c w=0:=by
                                rw[hbn1]; clear hS hw hfr hnm hre hd1 hd2 hnw hfm hfe hlm hcn hcm hne hfn1 hfw; simp_all
                              exact mtN eb ⟨hbw,by rw[hfw,dO],hS⟩)
                           | (have hfw:Kq c w=true:=by
                                rw[hfn1]; clear hS hw hfr hnm hre hd1 hd2 hnw hfm hfe hlm hcn hcm hne hbn1; simp_all
                              have hbw:Kl c w=0:=by
                                rw[hbn1]; clear hS hw hfr hnm hre hd1 hd2 hnw hfm hfe hlm hcn hcm hne hfn1 hfw; simp_all
                              exact mtN true ⟨hbw,by rw[hfw,dU],hS⟩)
                     · intro g80;have g80:=of_decide_eq_false g80;refine dA ?_;have hfn1:=Kx (w:=w) hcm;have hbn1:=Ko hcm hne
                       first
                         | (exfalso; omega)
                         | (have hfw:Kq c w=false:=by
                              rw[hfn1]; clear hS hw hfr hnm hre hd1 hd2 hnw hfm hfe hlm hcn hcm hne hbn1; simp_all
                            have hbw:Kl c w=0:=by
                              rw[hbn1]; clear hS hw hfr hnm hre hd1 hd2 hnw hfm hfe hlm hcn hcm hne hfn1 hfw; simp_all
                            exact mtN eb ⟨hbw,by rw[hfw,dO],hS⟩)
                         | (have hfw:Kq c w=true:=by
                              rw[hfn1]; clear hS hw hfr hnm hre hd1 hd2 hnw hfm hfe hlm hcn hcm hne hbn1; simp_all
                            have hbw:Kl c w=0:=by
                              rw[hbn1]; clear hS hw hfr hnm hre hd1 hd2 hnw hfm hfe hlm hcn hcm hne hfn1 hfw; simp_all
                            exact mtN true ⟨hbw,by rw[hfw,dU],hS⟩)
                 · intro g74;have g74:=of_decide_eq_false g74;refine bz ?_;refine OP ?_;refine Oc ?_;refine Ow (dj:=80) rfl rfl true false rfl ?_ ?_
                   · intro g80;have g80:=of_decide_eq_true g80;refine bY ?_;refine Om ?_ ?_
                     · intro c71;refine cj ?_;have hfn1:=Kx (w:=w) hcm;have hbn1:=Ko hcm hne
                       first
                         | (exfalso; omega)
                         | (have hfw:Kq c w=false:=by
                              rw[hfn1]; clear hS hw hfr hnm hre hd1 hd2 hnw hfm hfe hlm hcn hcm hne hbn1; simp_all
                            have hbw:Kl c w=0:=by
                              rw[hbn1]; clear hS hw hfr hnm hre hd1 hd2 hnw hfm hfe hlm hcn hcm hne hfn1 hfw; simp_all
                            exact mtN eb ⟨hbw,by rw[hfw,dO],hS⟩)
                         | (have hfw:Kq c w=true:=by
                              rw[hfn1]; clear hS hw hfr hnm hre hd1 hd2 hnw hfm hfe hlm hcn hcm hne hbn1; simp_all
                            have hbw:Kl c w=0:=by
                              rw[hbn1]; clear hS hw hfr hnm hre hd1 hd2 hnw hfm hfe hlm hcn hcm hne hfn1 hfw; simp_all
                            exact mtN true ⟨hbw,by rw[hfw,dU],hS⟩)
                     · intro c71;refine b8 ?_;have hfn1:=Kx (w:=w) hcm;have hbn1:=Ko hcm hne
                       first
                         | (exfalso; omega)
                         | (have hfw:Kq c w=false:=by
                              rw[hfn1]; clear hS hw hfr hnm hre hd1 hd2 hnw hfm hfe hlm hcn hcm hne hbn1; simp_all
                            have hbw:Kl c w=0:=by
                              rw[hbn1]; clear hS hw hfr hnm hre hd1 hd2 hnw hfm hfe hlm hcn hcm hne hfn1 hfw; simp_all
                            exact mtN eb ⟨hbw,by rw[hfw,dO],hS⟩)
                         | (have hfw:Kq c w=true:=by
                              rw[hfn1]; clear hS hw hfr hnm hre hd1 hd2 hnw hfm hfe hlm hcn hcm hne hbn1; simp_all
                            have hbw:Kl c w=0:=by
                              rw[hbn1]; clear hS hw hfr hnm hre hd1 hd2 hnw hfm hfe hlm hcn hcm hne hfn1 hfw; simp_all
                            exact mtN true ⟨hbw,by rw[hfw,dU],hS⟩)
                   · intro g80;have g80:=of_decide_eq_false g80;refine dA ?_;have hfn1:=Kx (w:=w) hcm;have hbn1:=Ko hcm hne
                     first
                       | (exfalso; omega)
                       | (have hfw:Kq c w=false:=by
                            rw[hfn1]; clear hS hw hfr hnm hre hd1 hd2 hnw hfm hfe hlm hcn hcm hne hbn1; simp_all
                          have hbw:Kl c w=0:=by
                            rw[hbn1]; clear hS hw hfr hnm hre hd1 hd2 hnw hfm hfe hlm hcn hcm hne hfn1 hfw; simp_all
                          exact mtN eb ⟨hbw,by rw[hfw,dO],hS⟩)
                       | (have hfw:Kq c w=true:=by
                            rw[hfn1]; clear hS hw hfr hnm hre hd1 hd2 hnw hfm hfe hlm hcn hcm hne hbn1; simp_all
                          have hbw:Kl c w=0:=by
                            rw[hbn1]; clear hS hw hfr hnm hre hd1 hd2 hnw hfm hfe hlm hcn hcm hne hfn1 hfw; simp_all
                          exact mtN true ⟨hbw,by rw[hfw,dU],hS⟩)
             · intro g67;have g67:=XI g67;refine Oa [4,6,7,9,10,38,56,57,58,59,60,61,62,64,68,69] ?_;refine OP ?_;refine Oc ?_;refine Ow (dj:=74) rfl rfl true false rfl ?_ ?_
               · intro g74;have g74:=of_decide_eq_true g74;refine bz ?_;refine Om ?_ ?_
                 · intro c71;refine OB ?_;refine Od ?_;refine Om ?_ ?_
                   · intro c71;refine cj ?_;have hfn1:=Kx (w:=w) hcm;have hbn1:=Ko hcm hne
                     first
                       | (exfalso; omega)
                       | (have hfw:Kq c w=false:=by
                            rw[hfn1]; clear hS hw hfr hnm hre hd1 hd2 hnw hfm hfe hlm hcn hcm hne hbn1; simp_all
                          have hbw:Kl c w=0:=by
                            rw[hbn1]; clear hS hw hfr hnm hre hd1 hd2 hnw hfm hfe hlm hcn hcm hne hfn1 hfw; simp_all
                          exact mtN eb ⟨hbw,by rw[hfw,dO],hS⟩)
                       | (have hfw:Kq c w=true:=by
                            rw[hfn1]; clear hS hw hfr hnm hre hd1 hd2 hnw hfm hfe hlm hcn hcm hne hbn1; simp_all
                          have hbw:Kl c w=0:=by
                            rw[hbn1]; clear hS hw hfr hnm hre hd1 hd2 hnw hfm hfe hlm hcn hcm hne hfn1 hfw; simp_all
                          exact mtN true ⟨hbw,by rw[hfw,dU],hS⟩)
                   · intro c71;refine b8 ?_;have hfn1:=Kx (w:=w) hcm;have hbn1:=Ko hcm hne
                     first
                       | (exfalso; omega)
                       | (have hfw:Kq c w=false:=by
                            rw[hfn1]; clear hS hw hfr hnm hre hd1 hd2 hnw hfm hfe hlm hcn hcm hne hbn1; simp_all
                          have hbw:Kl c w=0:=by
                            rw[hbn1]; clear hS hw hfr hnm hre hd1 hd2 hnw hfm hfe hlm hcn hcm hne hfn1 hfw; simp_all
                          exact mtN eb ⟨hbw,by rw[hfw,dO],hS⟩)
                       | (have hfw:Kq c w=true:=by
                            rw[hfn1]; clear hS hw hfr hnm hre hd1 hd2 hnw hfm hfe hlm hcn hcm hne hbn1; simp_all
                          have hbw:Kl c w=0:=by
                            rw[hbn1]; clear hS hw hfr hnm hre hd1 hd2 hnw hfm hfe hlm hcn hcm hne hfn1 hfw; simp_all
                          exact mtN true ⟨hbw,by rw[hfw,dU],hS⟩)
                 · intro c71;refine Oc ?_;refine Ow (dj:=80) rfl rfl true false rfl ?_ ?_
                   · intro g80;have g80:=of_decide_eq_true g80;refine bY ?_;refine Om ?_ ?_
                     · intro c71;refine cj ?_;have hfn1:=Kx (w:=w) hcm;have hbn1:=Ko hcm hne
                       first
                         | (exfalso; omega)
                         | (have hfw:Kq c w=false:=by
                              rw[hfn1]; clear hS hw hfr hnm hre hd1 hd2 hnw hfm hfe hlm hcn hcm hne hbn1; simp_all
                            have hbw:Kl c w=0:=by
                              rw[hbn1]; clear hS hw hfr hnm hre hd1 hd2 hnw hfm hfe hlm hcn hcm hne hfn1 hfw; simp_all
                            exact mtN eb ⟨hbw,by rw[hfw,dO],hS⟩)
                         | (have hfw:Kq c w=true:=by
                              rw[hfn1]; clear hS hw hfr hnm hre hd1 hd2 hnw hfm hfe hlm hcn hcm hne hbn1; simp_all
                            have hbw:Kl c w=0:=by
                              rw[hbn1]; clear hS hw hfr hnm hre hd1 hd2 hnw hfm hfe hlm hcn hcm hne hfn1 hfw; simp_all
                            exact mtN true ⟨hbw,by rw[hfw,dU],hS⟩)
                     · intro c71;refine b8 ?_;have hfn1:=Kx (w:=w) hcm;have hbn1:=Ko hcm hne
                       first
                         | (exfalso; omega)
                         | (have hfw:Kq c w=false:=by
                              rw[hfn1]; clear hS hw hfr hnm hre hd1 hd2 hnw hfm hfe hlm hcn hcm hne hbn1; simp_all
                            have hbw:Kl c w=0:=by
                              rw[hbn1]; clear hS hw hfr hnm hre hd1 hd2 hnw hfm hfe hlm hcn hcm hne hfn1 hfw; simp_all
                            exact mtN eb ⟨hbw,by rw[hfw,dO],hS⟩)
                         | (have hfw:Kq c w=true:=by
                              rw[hfn1]; clear hS hw hfr hnm hre hd1 hd2 hnw hfm hfe hlm hcn hcm hne hbn1; simp_all
                            have hbw:Kl c w=0:=by
                              rw[hbn1]; clear hS hw hfr hnm hre hd1 hd2 hnw hfm hfe hlm hcn hcm hne hfn1 hfw; simp_all
                            exact mtN true ⟨hbw,by rw[hfw,dU],hS⟩)
                   · intro g80;have g80:=of_decide_eq_false g80;refine dA ?_;have hfn1:=Kx (w:=w) hcm;have hbn1:=Ko hcm hne
                     first
                       | (exfalso; omega)
                       | (have hfw:Kq c w=false:=by
                            rw[hfn1]; clear hS hw hfr hnm hre hd1 hd2 hnw hfm hfe hlm hcn hcm hne hbn1; simp_all
                          have hbw:Kl c w=0:=by
                            rw[hbn1]; clear hS hw hfr hnm hre hd1 hd2 hnw hfm hfe hlm hcn hcm hne hfn1 hfw; simp_all
                          exact mtN eb ⟨hbw,by rw[hfw,dO],hS⟩)
                       | (have hfw:Kq c w=true:=by
                            rw[hfn1]; clear hS hw hfr hnm hre hd1 hd2 hnw hfm hfe hlm hcn hcm hne hbn1; simp_all
                          have hbw:Kl c w=0:=by
                            rw[hbn1]; clear hS hw hfr hnm hre hd1 hd2 hnw hfm hfe hlm hcn hcm hne hfn1 hfw; simp_all
                          exact mtN true ⟨hbw,by rw[hfw,dU],hS⟩)
               · intro g74;have g74:=of_decide_eq_false g74;refine bz ?_;refine OP ?_;refine Oc ?_;refine Ow (dj:=80) rfl rfl true false rfl ?_ ?_
                 · intro g80;have g80:=of_decide_eq_true g80;refine bY ?_;refine Om ?_ ?_
                   · intro c71;refine cj ?_;have hfn1:=Kx (w:=w) hcm;have hbn1:=Ko hcm hne
                     first
                       | (exfalso; omega)
                       | (have hfw:Kq c w=false:=by
                            rw[hfn1]; clear hS hw hfr hnm hre hd1 hd2 hnw hfm hfe hlm hcn hcm hne hbn1; simp_all
                          have hbw:Kl c w=0:=by
                            rw[hbn1]; clear hS hw hfr hnm hre hd1 hd2 hnw hfm hfe hlm hcn hcm hne hfn1 hfw; simp_all
                          exact mtN eb ⟨hbw,by rw[hfw,dO],hS⟩)
                       | (have hfw:Kq c w=true:=by
                            rw[hfn1]; clear hS hw hfr hnm hre hd1 hd2 hnw hfm hfe hlm hcn hcm hne hbn1; simp_all
                          have hbw:Kl c w=0:=by
                            rw[hbn1]; clear hS hw hfr hnm hre hd1 hd2 hnw hfm hfe hlm hcn hcm hne hfn1 hfw; simp_all
                          exact mtN true ⟨hbw,by rw[hfw,dU],hS⟩)
                   · intro c71;refine b8 ?_;have hfn1:=Kx (w:=w) hcm;have hbn1:=Ko hcm hne
                     first
                       | (exfalso; omega)
                       | (have hfw:Kq c w=false:=by
                            rw[hfn1]; clear hS hw hfr hnm hre hd1 hd2 hnw hfm hfe hlm hcn hcm hne hbn1; simp_all
                          have hbw:Kl c w=0:=by
                            rw[hbn1]; clear hS hw hfr hnm hre hd1 hd2 hnw hfm hfe hlm hcn hcm hne hfn1 hfw; simp_all
                          exact mtN eb ⟨hbw,by rw[hfw,dO],hS⟩)
                       | (have hfw:Kq c w=true:=by
                            rw[hfn1]; clear hS hw hfr hnm hre hd1 hd2 hnw hfm hfe hlm hcn hcm hne hbn1; simp_all
                          have hbw:Kl c w=0:=by
                            rw[hbn1]; clear hS hw hfr hnm hre hd1 hd2 hnw hfm hfe hlm hcn hcm hne hfn1 hfw; simp_all
                          exact mtN true ⟨hbw,by rw[hfw,dU],hS⟩)
                 · intro g80;have g80:=of_decide_eq_false g80;refine dA ?_;have hfn1:=Kx (w:=w) hcm;have hbn1:=Ko hcm hne
                   first
                     | (exfalso; omega)
                     | (have hfw:Kq c w=false:=by
                          rw[hfn1]; clear hS hw hfr hnm hre hd1 hd2 hnw hfm hfe hlm hcn hcm hne hbn1; simp_all
                        have hbw:Kl c w=0:=by
                          rw[hbn1]; clear hS hw hfr hnm hre hd1 hd2 hnw hfm hfe hlm hcn hcm hne hfn1 hfw; simp_all
                        exact mtN eb ⟨hbw,by rw[hfw,dO],hS⟩)
                     | (have hfw:Kq c w=true:=by
                          rw[hfn1]; clear hS hw hfr hnm hre hd1 hd2 hnw hfm hfe hlm hcn hcm hne hbn1; simp_all
                        have hbw:Kl c w=0:=by
                          rw[hbn1]; clear hS hw hfr hnm hre hd1 hd2 hnw hfm hfe hlm hcn hcm hne hfn1 hfw; simp_all
                        exact mtN true ⟨hbw,by rw[hfw,dU],hS⟩)
         · intro g55;have g55:=of_decide_eq_false g55;refine Oa [4,6,7,9,10,11,38,52,56,57,58,59,60,61,62] ?_;refine OP ?_;refine Oc ?_;refine Ow (dj:=67) rfl rfl true false rfl ?_ ?_
           · intro g67;have g67:=ZC g67;refine Oa [4,6,7,9,10,38,56,57,58,59,60,61,62,64,68,69] ?_;refine Km ?_ ?_;intro c64;refine Oa [2,3] ?_;refine Kn ?_;refine Q1 ?_;refine mtQ.ret ?_;refine Oh ?_;have hb0:Kl c w=9:=by
               rw[Ko hcm hne];clear hS hw hfr hnm hre hd1 hd2 hnw hfm hfe hlm hcn hcm hne;simp_all
             have hw0:QT f ((Kg 32 l).drop 1)=9:=by
               rw[hw,QT,if_neg (by rw[hb0]; decide),hb0]
             have hq:KH l=9:=by
               rw[hre,hw0,if_pos aE]
             exact⟨⟨_,rfl,by rw[hq],fun h0=>by rw[hq] at h0; cases h0⟩,hS.keeps⟩
             · intro c64;refine Oc ?_;refine Ow (dj:=74) rfl rfl true false rfl ?_ ?_
               · intro g74;have g74:=of_decide_eq_true g74;refine bz ?_;refine Om ?_ ?_
                 · intro c71;refine OB ?_;refine Od ?_;refine Om ?_ ?_
                   · intro c71;refine cj ?_;have hfn1:=Kx (w:=w) hcm;have hbn1:=Ko hcm hne
                     first
                       | (exfalso; omega)
                       | (have hfw:Kq c w=false:=by
                            rw[hfn1]; clear hS hw hfr hnm hre hd1 hd2 hnw hfm hfe hlm hcn hcm hne hbn1; simp_all
                          have hbw:Kl c w=0:=by
                            rw[hbn1]; clear hS hw hfr hnm hre hd1 hd2 hnw hfm hfe hlm hcn hcm hne hfn1 hfw; simp_all
                          exact mtN eb ⟨hbw,by rw[hfw,dO],hS⟩)
                       | (have hfw:Kq c w=true:=by
                            rw[hfn1]; clear hS hw hfr hnm hre hd1 hd2 hnw hfm hfe hlm hcn hcm hne hbn1; simp_all
                          have hbw:Kl c w=0:=by
                            rw[hbn1]; clear hS hw hfr hnm hre hd1 hd2 hnw hfm hfe hlm hcn hcm hne hfn1 hfw; simp_all
                          exact mtN true ⟨hbw,by rw[hfw,dU],hS⟩)
                   · intro c71;refine b8 ?_;have hfn1:=Kx (w:=w) hcm;have hbn1:=Ko hcm hne
                     first
                       | (exfalso; omega)
                       | (have hfw:Kq c w=false:=by
                            rw[hfn1]; clear hS hw hfr hnm hre hd1 hd2 hnw hfm hfe hlm hcn hcm hne hbn1; simp_all
                          have hbw:Kl c w=0:=by
                            rw[hbn1]; clear hS hw hfr hnm hre hd1 hd2 hnw hfm hfe hlm hcn hcm hne hfn1 hfw; simp_all
                          exact mtN eb ⟨hbw,by rw[hfw,dO],hS⟩)
                       | (have hfw:Kq c w=true:=by
                            rw[hfn1]; clear hS hw hfr hnm hre hd1 hd2 hnw hfm hfe hlm hcn hcm hne hbn1; simp_all
                          have hbw:Kl c w=0:=by
                            rw[hbn1]; clear hS hw hfr hnm hre hd1 hd2 hnw hfm hfe hlm hcn hcm hne hfn1 hfw; simp_all
                          exact mtN true ⟨hbw,by rw[hfw,dU],hS⟩)
                 · intro c71;refine Oc ?_;refine Ow (dj:=80) rfl rfl true false rfl ?_ ?_
                   · intro g80;have g80:=of_decide_eq_true g80;refine bY ?_;refine Om ?_ ?_
                     · intro c71;refine cj ?_;have hfn1:=Kx (w:=w) hcm;have hbn1:=Ko hcm hne
                       first
                         | (exfalso; omega)
                         | (have hfw:Kq c w=false:=by
                              rw[hfn1]; clear hS hw hfr hnm hre hd1 hd2 hnw hfm hfe hlm hcn hcm hne hbn1; simp_all
                            have hbw:Kl c w=0:=by
                              rw[hbn1]; clear hS hw hfr hnm hre hd1 hd2 hnw hfm hfe hlm hcn hcm hne hfn1 hfw; simp_all
                            exact mtN eb ⟨hbw,by rw[hfw,dO],hS⟩)
                         | (have hfw:Kq c w=true:=by
                              rw[hfn1]; clear hS hw hfr hnm hre hd1 hd2 hnw hfm hfe hlm hcn hcm hne hbn1; simp_all
                            have hbw:Kl c w=0:=by
                              rw[hbn1]; clear hS hw hfr hnm hre hd1 hd2 hnw hfm hfe hlm hcn hcm hne hfn1 hfw; simp_all
                            exact mtN true ⟨hbw,by rw[hfw,dU],hS⟩)
                     · intro c71;refine b8 ?_;have hfn1:=Kx (w:=w) hcm;have hbn1:=Ko hcm hne
                       first
                         | (exfalso; omega)
                         | (have hfw:Kq c w=false:=by
                              rw[hfn1]; clear hS hw hfr hnm hre hd1 hd2 hnw hfm hfe hlm hcn hcm hne hbn1; simp_all
                            have hbw:Kl c w=0:=by
                              rw[hbn1]; clear hS hw hfr hnm hre hd1 hd2 hnw hfm hfe hlm hcn hcm hne hfn1 hfw; simp_all
                            exact mtN eb ⟨hbw,by rw[hfw,dO],hS⟩)
                         | (have hfw:Kq c w=true:=by
                              rw[hfn1]; clear hS hw hfr hnm hre hd1 hd2 hnw hfm hfe hlm hcn hcm hne hbn1; simp_all
                            have hbw:Kl c w=0:=by
                              rw[hbn1]; clear hS hw hfr hnm hre hd1 hd2 hnw hfm hfe hlm hcn hcm hne hfn1 hfw; simp_all
                            exact mtN true ⟨hbw,by rw[hfw,dU],hS⟩)
                   · intro g80;have g80:=of_decide_eq_false g80;refine dA ?_;have hfn1:=Kx (w:=w) hcm;have hbn1:=Ko hcm hne
                     first
                       | (exfalso; omega)
                       | (have hfw:Kq c w=false:=by
                            rw[hfn1]; clear hS hw hfr hnm hre hd1 hd2 hnw hfm hfe hlm hcn hcm hne hbn1; simp_all
                          have hbw:Kl c w=0:=by
                            rw[hbn1]; clear hS hw hfr hnm hre hd1 hd2 hnw hfm hfe hlm hcn hcm hne hfn1 hfw; simp_all
                          exact mtN eb ⟨hbw,by rw[hfw,dO],hS⟩)
                       | (have hfw:Kq c w=true:=by
                            rw[hfn1]; clear hS hw hfr hnm hre hd1 hd2 hnw hfm hfe hlm hcn hcm hne hbn1; simp_all
                          have hbw:Kl c w=0:=by
                            rw[hbn1]; clear hS hw hfr hnm hre hd1 hd2 hnw hfm hfe hlm hcn hcm hne hfn1 hfw; simp_all
                          exact mtN true ⟨hbw,by rw[hfw,dU],hS⟩)
               · intro g74;have g74:=of_decide_eq_false g74;refine bz ?_;refine OP ?_;refine Oc ?_;refine Ow (dj:=80) rfl rfl true false rfl ?_ ?_
                 · intro g80;have g80:=of_decide_eq_true g80;refine bY ?_;refine Om ?_ ?_
                   · intro c71;refine cj ?_;have hfn1:=Kx (w:=w) hcm;have hbn1:=Ko hcm hne
                     first
                       | (exfalso; omega)
                       | (have hfw:Kq c w=false:=by
                            rw[hfn1]; clear hS hw hfr hnm hre hd1 hd2 hnw hfm hfe hlm hcn hcm hne hbn1; simp_all
                          have hbw:Kl c w=0:=by
                            rw[hbn1]; clear hS hw hfr hnm hre hd1 hd2 hnw hfm hfe hlm hcn hcm hne hfn1 hfw; simp_all
                          exact mtN eb ⟨hbw,by rw[hfw,dO],hS⟩)
                       | (have hfw:Kq c w=true:=by
                            rw[hfn1]; clear hS hw hfr hnm hre hd1 hd2 hnw hfm hfe hlm hcn hcm hne hbn1; simp_all
                          have hbw:Kl c w=0:=by
                            rw[hbn1]; clear hS hw hfr hnm hre hd1 hd2 hnw hfm hfe hlm hcn hcm hne hfn1 hfw; simp_all
                          exact mtN true ⟨hbw,by rw[hfw,dU],hS⟩)
                   · intro c71;refine b8 ?_;have hfn1:=Kx (w:=w) hcm;have hbn1:=Ko hcm hne
                     first
                       | (exfalso; omega)
                       | (have hfw:Kq c w=false:=by
                            rw[hfn1]; clear hS hw hfr hnm hre hd1 hd2 hnw hfm hfe hlm hcn hcm hne hbn1; simp_all
                          have hbw:Kl c w=0:=by
                            rw[hbn1]; clear hS hw hfr hnm hre hd1 hd2 hnw hfm hfe hlm hcn hcm hne hfn1 hfw; simp_all
                          exact mtN eb ⟨hbw,by rw[hfw,dO],hS⟩)
                       | (have hfw:Kq c w=true:=by
                            rw[hfn1]; clear hS hw hfr hnm hre hd1 hd2 hnw hfm hfe hlm hcn hcm hne hbn1; simp_all
                          have hbw:Kl c w=0:=by
                            rw[hbn1]; clear hS hw hfr hnm hre hd1 hd2 hnw hfm hfe hlm hcn hcm hne hfn1 hfw; simp_all
                          exact mtN true ⟨hbw,by rw[hfw,dU],hS⟩)
                 · intro g80;have g80:=of_decide_eq_false g80;refine dA ?_;have hfn1:=Kx (w:=w) hcm;have hbn1:=Ko hcm hne
                   first
                     | (exfalso; omega)
                     | (have hfw:Kq c w=false:=by
                          rw[hfn1]; clear hS hw hfr hnm hre hd1 hd2 hnw hfm hfe hlm hcn hcm hne hbn1; simp_all
                        have hbw:Kl c w=0:=by
                          rw[hbn1]; clear hS hw hfr hnm hre hd1 hd2 hnw hfm hfe hlm hcn hcm hne hfn1 hfw; simp_all
                        exact mtN eb ⟨hbw,by rw[hfw,dO],hS⟩)
                     | (have hfw:Kq c w=true:=by
                          rw[hfn1]; clear hS hw hfr hnm hre hd1 hd2 hnw hfm hfe hlm hcn hcm hne hbn1; simp_all
                        have hbw:Kl c w=0:=by
                          rw[hbn1]; clear hS hw hfr hnm hre hd1 hd2 hnw hfm hfe hlm hcn hcm hne hfn1 hfw; simp_all
                        exact mtN true ⟨hbw,by rw[hfw,dU],hS⟩)
           · intro g67;have g67:=XI g67;refine Oa [4,6,7,9,10,38,56,57,58,59,60,61,62,64,68,69] ?_;refine OP ?_;refine Oc ?_;refine Ow (dj:=74) rfl rfl true false rfl ?_ ?_
             · intro g74;have g74:=of_decide_eq_true g74;refine bz ?_;refine Om ?_ ?_
               · intro c71;refine OB ?_;refine Od ?_;refine Om ?_ ?_
                 · intro c71;refine cj ?_;have hfn1:=Kx (w:=w) hcm;have hbn1:=Ko hcm hne
                   first
                     | (exfalso; omega)
                     | (have hfw:Kq c w=false:=by
                          rw[hfn1]; clear hS hw hfr hnm hre hd1 hd2 hnw hfm hfe hlm hcn hcm hne hbn1; simp_all
                        have hbw:Kl c w=0:=by
                          rw[hbn1]; clear hS hw hfr hnm hre hd1 hd2 hnw hfm hfe hlm hcn hcm hne hfn1 hfw; simp_all
                        exact mtN eb ⟨hbw,by rw[hfw,dO],hS⟩)
                     | (have hfw:Kq c w=true:=by
                          rw[hfn1]; clear hS hw hfr hnm hre hd1 hd2 hnw hfm hfe hlm hcn hcm hne hbn1; simp_all
                        have hbw:Kl c w=0:=by
                          rw[hbn1]; clear hS hw hfr hnm hre hd1 hd2 hnw hfm hfe hlm hcn hcm hne hfn1 hfw; simp_all
                        exact mtN true ⟨hbw,by rw[hfw,dU],hS⟩)
                 · intro c71;refine b8 ?_;have hfn1:=Kx (w:=w) hcm;have hbn1:=Ko hcm hne
                   first
                     | (exfalso; omega)
                     | (have hfw:Kq c w=false:=by
                          rw[hfn1]; clear hS hw hfr hnm hre hd1 hd2 hnw hfm hfe hlm hcn hcm hne hbn1; simp_all
                        have hbw:Kl c w=0:=by
                          rw[hbn1]; clear hS hw hfr hnm hre hd1 hd2 hnw hfm hfe hlm hcn hcm hne hfn1 hfw; simp_all
                        exact mtN eb ⟨hbw,by rw[hfw,dO],hS⟩)
                     | (have hfw:Kq c w=true:=by
                          rw[hfn1]; clear hS hw hfr hnm hre hd1 hd2 hnw hfm hfe hlm hcn hcm hne hbn1; simp_all
                        have hbw:Kl c w=0:=by
                          rw[hbn1]; clear hS hw hfr hnm hre hd1 hd2 hnw hfm hfe hlm hcn hcm hne hfn1 hfw; simp_all
                        exact mtN true ⟨hbw,by rw[hfw,dU],hS⟩)
               · intro c71;refine Oc ?_;refine Ow (dj:=80) rfl rfl true false rfl ?_ ?_
                 · intro g80;have g80:=of_decide_eq_true g80;refine bY ?_;refine Om ?_ ?_
                   · intro c71;refine cj ?_;have hfn1:=Kx (w:=w) hcm;have hbn1:=Ko hcm hne
                     first
                       | (exfalso; omega)
                       | (have hfw:Kq c w=false:=by
                            rw[hfn1]; clear hS hw hfr hnm hre hd1 hd2 hnw hfm hfe hlm hcn hcm hne hbn1; simp_all
                          have hbw:Kl c w=0:=by
                            rw[hbn1]; clear hS hw hfr hnm hre hd1 hd2 hnw hfm hfe hlm hcn hcm hne hfn1 hfw; simp_all
                          exact mtN eb ⟨hbw,by rw[hfw,dO],hS⟩)
                       | (have hfw:Kq c w=true:=by
                            rw[hfn1]; clear hS hw hfr hnm hre hd1 hd2 hnw hfm hfe hlm hcn hcm hne hbn1; simp_all
                          have hbw:Kl c w=0:=by
                            rw[hbn1]; clear hS hw hfr hnm hre hd1 hd2 hnw hfm hfe hlm hcn hcm hne hfn1 hfw; simp_all
                          exact mtN true ⟨hbw,by rw[hfw,dU],hS⟩)
                   · intro c71;refine b8 ?_;have hfn1:=Kx (w:=w) hcm;have hbn1:=Ko hcm hne
                     first
                       | (exfalso; omega)
                       | (have hfw:Kq c w=false:=by
                            rw[hfn1]; clear hS hw hfr hnm hre hd1 hd2 hnw hfm hfe hlm hcn hcm hne hbn1; simp_all
                          have hbw:Kl c w=0:=by
                            rw[hbn1]; clear hS hw hfr hnm hre hd1 hd2 hnw hfm hfe hlm hcn hcm hne hfn1 hfw; simp_all
                          exact mtN eb ⟨hbw,by rw[hfw,dO],hS⟩)
                       | (have hfw:Kq c w=true:=by
                            rw[hfn1]; clear hS hw hfr hnm hre hd1 hd2 hnw hfm hfe hlm hcn hcm hne hbn1; simp_all
                          have hbw:Kl c w=0:=by
                            rw[hbn1]; clear hS hw hfr hnm hre hd1 hd2 hnw hfm hfe hlm hcn hcm hne hfn1 hfw; simp_all
                          exact mtN true ⟨hbw,by rw[hfw,dU],hS⟩)
                 · intro g80;have g80:=of_decide_eq_false g80;refine dA ?_;have hfn1:=Kx (w:=w) hcm;have hbn1:=Ko hcm hne
                   first
                     | (exfalso; omega)
                     | (have hfw:Kq c w=false:=by
                          rw[hfn1]; clear hS hw hfr hnm hre hd1 hd2 hnw hfm hfe hlm hcn hcm hne hbn1; simp_all
                        have hbw:Kl c w=0:=by
                          rw[hbn1]; clear hS hw hfr hnm hre hd1 hd2 hnw hfm hfe hlm hcn hcm hne hfn1 hfw; simp_all
                        exact mtN eb ⟨hbw,by rw[hfw,dO],hS⟩)
                     | (have hfw:Kq c w=true:=by
                          rw[hfn1]; clear hS hw hfr hnm hre hd1 hd2 hnw hfm hfe hlm hcn hcm hne hbn1; simp_all
                        have hbw:Kl c w=0:=by
                          rw[hbn1]; clear hS hw hfr hnm hre hd1 hd2 hnw hfm hfe hlm hcn hcm hne hfn1 hfw; simp_all
                        exact mtN true ⟨hbw,by rw[hfw,dU],hS⟩)
             · intro g74;have g74:=of_decide_eq_false g74;refine bz ?_;refine OP ?_;refine Oc ?_;refine Ow (dj:=80) rfl rfl true false rfl ?_ ?_
               · intro g80;have g80:=of_decide_eq_true g80;refine bY ?_;refine Om ?_ ?_
                 · intro c71;refine cj ?_;have hfn1:=Kx (w:=w) hcm;have hbn1:=Ko hcm hne
                   first
                     | (exfalso; omega)
                     | (have hfw:Kq c w=false:=by
                          rw[hfn1]; clear hS hw hfr hnm hre hd1 hd2 hnw hfm hfe hlm hcn hcm hne hbn1; simp_all
                        have hbw:Kl c w=0:=by
                          rw[hbn1]; clear hS hw hfr hnm hre hd1 hd2 hnw hfm hfe hlm hcn hcm hne hfn1 hfw; simp_all
                        exact mtN eb ⟨hbw,by rw[hfw,dO],hS⟩)
                     | (have hfw:Kq c w=true:=by
                          rw[hfn1]; clear hS hw hfr hnm hre hd1 hd2 hnw hfm hfe hlm hcn hcm hne hbn1; simp_all
                        have hbw:Kl c w=0:=by
                          rw[hbn1]; clear hS hw hfr hnm hre hd1 hd2 hnw hfm hfe hlm hcn hcm hne hfn1 hfw; simp_all
                        exact mtN true ⟨hbw,by rw[hfw,dU],hS⟩)
                 · intro c71;refine b8 ?_;have hfn1:=Kx (w:=w) hcm;have hbn1:=Ko hcm hne
                   first
                     | (exfalso; omega)
                     | (have hfw:Kq c w=false:=by
                          rw[hfn1]; clear hS hw hfr hnm hre hd1 hd2 hnw hfm hfe hlm hcn hcm hne hbn1; simp_all
                        have hbw:Kl c w=0:=by
                          rw[hbn1]; clear hS hw hfr hnm hre hd1 hd2 hnw hfm hfe hlm hcn hcm hne hfn1 hfw; simp_all
                        exact mtN eb ⟨hbw,by rw[hfw,dO],hS⟩)
                     | (have hfw:Kq c w=true:=by
                          rw[hfn1]; clear hS hw hfr hnm hre hd1 hd2 hnw hfm hfe hlm hcn hcm hne hbn1; simp_all
                        have hbw:Kl c w=0:=by
                          rw[hbn1]; clear hS hw hfr hnm hre hd1 hd2 hnw hfm hfe hlm hcn hcm hne hfn1 hfw; simp_all
                        exact mtN true ⟨hbw,by rw[hfw,dU],hS⟩)
               · intro g80;have g80:=of_decide_eq_false g80;refine dA ?_;have hfn1:=Kx (w:=w) hcm;have hbn1:=Ko hcm hne
                 first
                   | (exfalso; omega)
                   | (have hfw:Kq c w=false:=by
                        rw[hfn1]; clear hS hw hfr hnm hre hd1 hd2 hnw hfm hfe hlm hcn hcm hne hbn1; simp_all
                      have hbw:Kl c w=0:=by
                        rw[hbn1]; clear hS hw hfr hnm hre hd1 hd2 hnw hfm hfe hlm hcn hcm hne hfn1 hfw; simp_all
                      exact mtN eb ⟨hbw,by rw[hfw,dO],hS⟩)
                   | (have hfw:Kq c w=true:=by
                        rw[hfn1]; clear hS hw hfr hnm hre hd1 hd2 hnw hfm hfe hlm hcn hcm hne hbn1; simp_all
                      have hbw:Kl c w=0:=by
                        rw[hbn1]; clear hS hw hfr hnm hre hd1 hd2 hnw hfm hfe hlm hcn hcm hne hfn1 hfw; simp_all
                      exact mtN true ⟨hbw,by rw[hfw,dU],hS⟩)
       ·
         rintro y h3 ⟨hbad,hyy,hS⟩;refine Oa [4,6,7,10,38,85] ?_;refine Kc ?_ ?_;intro c85;refine cj ?_;have hc9:c≠119:=fun e=>c85 (by rw[e]; rfl)
         have hnum:Qq w 3=true:=by
           rw[Kl,if_neg hc9] at hbad;by_cases q:Qq w 3=true;exact q;rw[if_neg q] at hbad; cases hbad
         rw[QT,if_pos hbad] at hw;rw[VI,←Bool.or_assoc,←hyy] at hfr;rw[VN,if_neg hc9] at hnm;exact Ql (p+1,y,ZW w) (by repeat (first|exact Sub.nil _|refine Sub.cons Look.eq ?_|refine Sub.cons (Eq.trans Look.eq (congrArg (AV.int _) aK)) ?_|refine Sub.cons (Eq.trans Look.eq (by rw[if_pos hnum])) ?_)) ⟨hlt,hw,hfr,hnm,hS⟩ aI;intro c85;refine b8 ?_;have hc9:c=119:=hcn.1.1 aA;rw[QT,if_pos hbad] at hw;rw[VI,←Bool.or_assoc,←hyy] at hfr;rw[VN,if_pos hc9] at hnm;exact lpN (p+1,y,n) ⟨hlt,hw,hfr,hnm,hS⟩ aI
      intro np;refine dC ?_;refine OP ?_;refine bP ?_;refine Ox [4,6,7] ?_;refine Oa [4,6,7,88] ?_;refine Kc ?_ ?_;intro c88;refine bt ?_;have hpe:p=f.length:=by rw[wd_size] at np; omega
      subst hpe;rw[dQ] at hw hfr hnm;simp only[QT,VI,dO,VN] at hw hfr hnm;have hq:KH l=1:=by
       cases eb;exact absurd rfl c88;rw[hre,hw,hfr]; simp
      rw[show(if eb=true then (1:Int) else 0)=1 by cases eb; exact absurd rfl c88; rfl];exact⟨⟨_,rfl,by rw[hq],fun h0=>by rw[hq] at h0; cases h0⟩,hS.keeps⟩;intro c88;refine OC [4,6] ?_;refine Oc ?_;refine Ol rfl (told_c (hS.rd 1 rfl) (by rw[hfe]; exact hfl) (by rw[hfe]; exact hfn)) ?_;rintro _ _ ⟨rfl,rfl⟩;refine bt ?_;have hpe:p=f.length:=by rw[wd_size] at np; omega
      subst hpe;rw[dQ] at hw hfr hnm;simp only[QT,VI,dO,VN] at hw hfr hnm;have hq:KH l=0:=by
       cases eb;rw[hre,hw,hfr]; simp;rw[if_pos rfl] at c88; cases c88
      refine⟨⟨_,tellV_one (Qu (Kg 32 l) n),by rw[hq],fun _=>?_⟩,hS.keeps⟩;unfold Qa;simp only[hfe,hnm]
  intro g19;have g19:=of_decide_eq_true g19;refine Oa [4,22] ?_;refine KL ?_;refine bt ?_;have hq:KH l=9:=by
   unfold KH; simp only[]; rw[if_neg aA,if_pos (.inl g19)]
  exact⟨⟨_,rfl,by rw[hq],fun h0=>by rw[hq] at h0; cases h0⟩,hS.keeps⟩
end Go.Am
