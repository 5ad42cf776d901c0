/-
  Layer 14: what a line tells, or its error.
  Conditions: none.
-/
import Derived.Test.YtgnogfjajnnaoaaGreatDoorCd
namespace Go.Am
theorem splitC_small (c:UInt8):∀ (l:Str) (w:Str),w∈splitC c l→w.length≤l.length:=by
 intro l
 induction l with
 | nil=>intro w hw; simp[splitC] at hw; subst hw; exact Nat.le_refl _
 | cons a l ih=>
  intro w hw;simp only[splitC] at hw;split at hw
  ·rcases List.mem_cons.1 hw with rfl|hw
   ·exact Nat.zero_le _
   ·have:=ih w hw; rw[List.length_cons]; omega
  ·split at hw
   ·rename_i x xs he;rcases List.mem_cons.1 hw with rfl|hw
    ·have:=ih x (by rw[he]; exact List.mem_cons_self);rw[List.length_cons,List.length_cons]; omega
    ·have:=ih w (by rw[he]; exact List.mem_cons_of_mem _ hw); rw[List.length_cons]; omega
   ·simp at hw; subst hw; simp
theorem splitC_len (c:UInt8):∀ l:Str,(splitC c l).length≤l.length+1:=by
 intro l
 induction l with
 | nil=>simp[splitC]
 | cons a l ih=>
  simp only[splitC];split
  ·simp; omega
  ·split
   ·rename_i x xs he; rw[he] at ih; simp at ih⊢; omega
   ·simp
theorem formL_mem (k:Str):∀ c∈formL k,c=119∨c=110∨c=112:=by
 intro c hc;unfold formL at hc;split at hc
 ·simp at hc; simp[hc]
 ·split at hc
  ·simp at hc; simp[hc]
  ·split at hc
   ·simp at hc; rcases hc with rfl|rfl <;> simp
   ·split at hc
    ·simp at hc; rcases hc with rfl|rfl <;> simp
    ·split at hc
     ·simp at hc; simp[hc]
     ·cases hc
theorem formL_len (k:Str):(formL k).length≤3:=by
 unfold formL;split
 ·decide
 ·split
  ·decide
  ·split
   ·decide
   ·split
    ·decide
    ·split <;> decide
theorem drop_at {α:Type} [Inhabited α] {l:List α} {p:Nat} {d : α} (h:p<l.length):l.drop p=l.getD p d::l.drop (p+1):=by
 rw[List.drop_eq_getElem_cons h,List.getD_eq_getElem?_getD,List.getElem?_eq_getElem h,Option.getD_some]
theorem getD_drop1 (l:List Str) (p:Nat):(l.drop 1).getD p []=l.getD (p+1) []:=by
 rw[List.getD_eq_getElem?_getD,List.getElem?_drop,List.getD_eq_getElem?_getD,Nat.add_comm]
theorem getD_small {c:UInt8} {l:Str} {p:Nat}:((splitC c l).getD p []).length≤l.length:=by
 rw[List.getD_eq_getElem?_getD];by_cases h:p<(splitC c l).length
 ·rw[List.getElem?_eq_getElem h]; exact splitC_small c l _ (List.getElem_mem h)
 ·rw[List.getElem?_eq_none (by omega)]; exact Nat.zero_le _
theorem isName_of {w:Str} (h:w≠[]):isName w=nameB w:=by
 unfold isName nameB;rw[decide_eq_true h,Bool.true_and]
theorem farW_nat {c:UInt8} {w:Str} (hcm:c=119∨c=110∨c=112):farW c w=((decide ((c.toNat:Int)=112) && decide (numV w=0)) || (decide ((c.toNat:Int)=110) && decide (99<numV w))):=by
 unfold farW;rcases hcm with q|q|q <;> subst q <;> rfl
theorem badW_nat {c:UInt8} {w:Str} (hcm:c=119∨c=110∨c=112) (hne:w≠[]):badW c w=if (c.toNat:Int)=119 then (if nameB w then 0 else 10) else if isNum w 3 then 0 else 9:=by
  unfold badW;rw[isName_of hne];rcases hcm with q|q|q <;> subst q <;> rfl
theorem tellV_one (t:Tell):(tellV t).one=true:=by cases t <;> rfl
structure Vs (h:AHeap):Prop where
 sz:Sizes h
 mx:Mx h
 pw:Pow h
theorem Vs.ext {h h':AHeap} (z:Vs h) (k:Keeps h h'):Vs h':=⟨z.sz.ext k,z.mx.ext k,z.pw.ext k⟩
theorem read_c {h:AHeap} {l:Str} (hM:Mx h) (hl:l.length≤1000000):ACalls Go.Proofs.Tryz.prog 68 [.str (wd l)] h (fun q h'=>(∃ v,v.one=true∧q = .tup [v,.int .i64 (readE l)]∧(readE l=0→v=tellV (readT l)))∧Keeps h h'):=by
  refine OK 93 [.tmp 2,.tmp 3] Go.Proofs.Tryz.func68 rfl (by decide) rfl rfl (Nat.le_of_ble_eq_true rfl) ?_;have hS:=St.refl h;show KA _ 93 _ _ [(0,.str (wd l))] _;refine Oe ?_;refine Oa ?_;refine Oa ?_;refine Oc [0] ?_;refine Oo ?_;refine Oe ?_;refine Ob ?_;refine KOps.lenW ?_;refine Ka ?_;refine Oc [0,14] ?_;refine Ou ?_ ?_
  · intro c14;refine Oe ?_;refine Oa ?_;refine Oa ?_;refine Oc [2,3] ?_;refine Ok ?_;refine Oq ?_;refine OI ?_;have hq:readE l=19:=by
      unfold readE; rw[if_pos (by omega)]
    exact⟨⟨_,rfl,by rw[hq],fun h0=>by rw[hq] at h0; cases h0⟩,hS.keeps⟩
  · intro c14;refine OD [0] ?_;refine Oe ?_;refine Ob ?_;refine On rfl (split_c hM hl) ?_;rintro v16 h16 ⟨hsl,hS16⟩;replace hS:St _ _ (_::_):=St.trans hS hS16;refine Oa ?_;refine Oc [0,4] ?_;refine Oo ?_;refine Oe ?_;have hln:=splitC_len 32 l;have hlm:=@getD_small 32 l;have hl0:=List.length_pos_iff.2 (splitC_ne 32 l);refine Ob ?_;refine On rfl (containsS_c (hS.rd 0 rfl) (by omega)) ?_;rintro _ _ ⟨rfl,rfl⟩;refine Ob ?_;refine OH (dj:=19) rfl rfl false true rfl ?_ ?_
    · intro g19;have g19:=of_decide_eq_false g19;refine Ob ?_;refine Od (dj:=19) rfl rfl ?_;refine On rfl (containsBad_c hl) ?_;rintro _ hx ⟨rfl,hK⟩;replace hS:St _ _ _:=St.trans hS (St.ofK hK);simp only[List.nil_append] at hS;refine Ow ?_;refine Oc [4,22] ?_;refine O8 ?_ ?_
      · intro c22;refine Oe ?_;refine Oa ?_;refine Oa ?_;refine Oc [2,3] ?_;refine Ok ?_;refine Oq ?_;refine OI ?_;have hq:readE l=9:=by
          unfold readE; simp only[]; rw[if_neg (by omega),if_pos (.inr (show l.any badC=true from c22))]
        exact⟨⟨_,rfl,by rw[hq],fun h0=>by rw[hq] at h0; cases h0⟩,hS.keeps⟩
      · intro c22;refine OD [4] ?_;refine Oe ?_;refine Ob ?_;refine OB (hS.rd 0 rfl) (j:=0) rfl (by first|omega|(simp; done)|(simp; omega)) ?_;intro p24 hp24;refine O2 hp24 (hS.rd 0 rfl) (by first|omega|(simp; done)|(simp; omega)) ?_;refine On rfl (form_c) ?_;rintro _ _ ⟨rfl,rfl⟩;refine Oa ?_;refine Oc [4,5] ?_;refine Oo ?_;refine OG ?_;refine Oe ?_;refine Ob ?_;refine OJ ?_;refine Oa ?_;refine Oc [4,5,27] ?_;refine Ou ?_ ?_
        · intro c27;refine Oe ?_;refine Oa ?_;refine Oa ?_;refine Oc [2,3] ?_;refine Ok ?_;refine Ox ?_;refine Oq ?_;refine OI ?_;have hq:readE l=8:=by
            unfold readE; simp only[]; rw[if_neg (by omega),if_neg (by intro h0; rcases h0 with h0|h0; exact g19 h0; rw[show(fun c:UInt8=>decide (c.toNat<32∨126<c.toNat))=badC from rfl] at h0; simp[h0] at c22),if_pos c27]
          exact⟨⟨_,rfl,by rw[hq],fun h0=>by rw[hq] at h0; cases h0⟩,hS.keeps⟩
        · intro c27;refine Oe ?_;have hf3:=formL_len ((splitC 32 l).getD 0 []);refine Ob ?_;refine OP (hS.rd 0 rfl) ?_;refine Ob ?_;refine KOps.lenW ?_;refine OM (by first|omega|(simp; omega)) (by first|omega|(simp; omega)) ?_;refine O1 ?_;refine Oa ?_;refine Oc [4,5,30] ?_;refine OU ?_ ?_
          · intro c30;refine Oe ?_;refine Oa ?_;refine Oa ?_;refine Oc [2,3] ?_;refine Ok ?_;refine Ox ?_;refine Oq ?_;refine OI ?_;have hq:readE l=5:=by
              unfold readE; simp only[]; rw[if_neg (by omega),if_neg (by intro h0; rcases h0 with h0|h0; exact g19 h0; rw[show(fun c:UInt8=>decide (c.toNat<32∨126<c.toNat))=badC from rfl] at h0; simp[h0] at c22),if_neg c27,if_pos (by omega)]
            exact⟨⟨_,rfl,by rw[hq],fun h0=>by rw[hq] at h0; cases h0⟩,hS.keeps⟩
          · intro c30;refine OC ?_;refine Ot ?_;refine Oh ?_;refine Oz [4,5] ?_;refine Oe ?_;obtain⟨hfn,hfl⟩:formL ((splitC 32 l).getD 0 [])≠[]∧(splitC 32 l).length=(formL ((splitC 32 l).getD 0 [])).length+1:=⟨c27,by omega⟩;have hf3:=formL_len ((splitC 32 l).getD 0 []);have hfm:=formL_mem ((splitC 32 l).getD 0 []);generalize hfe:formL ((splitC 32 l).getD 0 [])=f at *;have hre:readE l=if wordsE f ((splitC 32 l).drop 1)≠0 then wordsE f ((splitC 32 l).drop 1) else if farE f ((splitC 32 l).drop 1) then 1 else 0:=by
              unfold readE;simp only[hfe];rw[if_neg (by omega),if_neg (by intro h; rcases h with h|h; exact g19 h; rw[show(fun c:UInt8=>decide (c.toNat<32∨126<c.toNat))=badC from rfl] at h; simp[h] at c22),if_neg hfn,if_neg (by omega)]
            have hnw:∀ p,p<f.length→(splitC 32 l).getD (p+1) []≠[]:=by
              intro p hp he;refine g19 ?_;rw[List.getD_eq_getElem?_getD,List.getElem?_eq_getElem (show p+1<(splitC 32 l).length by omega),Option.getD_some] at he;rw[←he];exact List.getElem_mem _
            refine Oa ?_;refine Oa ?_;refine Oj ?_;refine Oh ?_;refine Oo ?_;refine Oe ?_;refine Ob ?_;refine KOps.range hS rfl ?_;intro v38 h' hv38 hS;refine Oc [4,6,7,38] ?_;refine OG ?_;refine O6 (X:=Nat × Bool × Int) (fun x=>[(4,v16),(6,.int .i64 x.2.2),(7,.int .i64 (if x.2.1 then 1 else 0)),(38,v38)]) (fun x h'=>x.1≤f.length∧wordsE f ((splitC 32 l).drop 1)=wordsE (f.drop x.1) (((splitC 32 l).drop 1).drop x.1)∧farE f ((splitC 32 l).drop 1)=(x.2.1 || farE (f.drop x.1) (((splitC 32 l).drop 1).drop x.1))∧numW f ((splitC 32 l).drop 1) 0=numW (f.drop x.1) (((splitC 32 l).drop 1).drop x.1) x.2.2∧St h h' [walkO v38 (wd f) x.1,⟨v16,1,wcs (splitC 32 l),true⟩]) (fun x=>f.length - x.1) (0,false,0) ?_ ?_
            · exact⟨Nat.zero_le _,rfl,by simp,rfl,hS⟩
            rintro⟨p,eb,n⟩ h2 ⟨hp,hw,hfr,hnm,hS⟩;dsimp only at hp hw hfr hnm hS⊢;refine Oe ?_;refine KOps.next hS hv38 (i:=0) rfl rfl ?_ ?_
            · intro np h' hS;simp only[List.set_cons_zero,List.set_cons_succ,Nat.zero_add] at hS;have hlt:p<f.length:=by rw[wd_size] at np; exact np
              have hcm:=hfm (f.getD p 0) (by rw[List.getD_eq_getElem?_getD,List.getElem?_eq_getElem hlt,Option.getD_some]; exact List.getElem_mem hlt);have hc8:(f.getD p 0).toNat<128:=by rcases hcm with q|q|q <;> rw[q] <;> decide
              simp only[dec_w hlt hc8] at hS⊢;have hd1:=drop_at (d:=(0:UInt8)) hlt;have hd2:=drop_at (l:=(splitC 32 l).drop 1) (p:=p) (d:=([]:Str)) (by rw[List.length_drop]; omega);rw[getD_drop1] at hd2;rw[hd1,hd2] at hw hfr hnm;have hne:=hnw p hlt;generalize hce:f.getD p 0=c at *;obtain⟨w,hwe⟩:∃ w,(splitC 32 l).getD (p+1) []=w:=⟨_,rfl⟩;rw[hwe] at hne hw hfr hnm;have hwl:w.length≤1000000:=by have:=hlm (p:=p+1); rw[hwe] at this; omega
              have hcn:(c.toNat=119↔c=119)∧(c.toNat=110↔c=110)∧(c.toNat=112↔c=112):=by
                rcases hcm with q|q|q <;> rw[q] <;> decide
              refine Om ?_;refine Oj ?_;refine Oh ?_;refine Oo ?_;refine OV ?_;refine OD [4,6,7,38,39] ?_;refine OG ?_;refine Oe ?_;refine Om ?_;refine Om ?_;refine Oa ?_;refine Oa ?_;refine Oc [4,6,7,8,9,38] ?_;refine Oe ?_;refine Ob ?_;refine Ob ?_;refine OM (by first|omega|(simp; omega)) (by first|omega|(simp; omega)) ?_;refine OB (hS.rd 1 rfl) (j:=_) rfl (by first|omega|(simp; done)|(simp; omega)) ?_;intro p47 hp47;refine O2 hp47 (hS.rd 1 rfl) (by first|omega|(simp; done)|(simp; omega)) ?_;rw[hwe];refine On rfl (number_c (m:=3) (by decide) hwl) ?_;rintro _ hx ⟨rfl,hK⟩;replace hS:St _ _ _:=St.trans hS (St.ofK hK);simp only[List.nil_append] at hS;refine Ob ?_;refine Om ?_;refine Om ?_;refine Oa ?_;refine Oa ?_;refine Oc [4,6,7,8,9,10,11,38] ?_;refine KA.meet (X:=Bool) (fun y=>[(4,v16),(6,.int .i64 n),(7,.int .i64 (if y then 1 else 0)),(9,.int .i32 (c.toNat:Int)),(10,.int .i64 (if isNum w 3 then numV w else 0)),(38,v38)]) (fun y h'=>badW c w=0∧y=(eb || farW c w)∧St h h' [walkO v38 (wd f) (p+1),⟨v16,1,wcs (splitC 32 l),true⟩]) ?_ ?_
              ·
                refine OG ?_;refine Oe ?_;refine Ob ?_;refine ON ?_;refine Ob ?_;refine OH (dj:=55) rfl rfl true false rfl ?_ ?_
                · intro g55;have g55:=of_decide_eq_true g55;refine Ob ?_;refine Od (dj:=55) rfl rfl ?_;refine Ob ?_;refine Od (dj:=55) rfl rfl ?_;refine OM (by first|omega|(simp; omega)) (by first|omega|(simp; omega)) ?_;refine Od (dj:=55) rfl rfl ?_;refine OB (hS.rd 1 rfl) (j:=_) rfl (by first|omega|(simp; done)|(simp; omega)) ?_;intro p59 hp59;refine Od (dj:=55) rfl rfl ?_;refine O2 hp59 (hS.rd 1 rfl) (by first|omega|(simp; done)|(simp; omega)) ?_;rw[hwe];refine Od (dj:=55) rfl rfl ?_;refine On rfl (named_c hwl) ?_;rintro _ _ ⟨rfl,rfl⟩;refine Od (dj:=55) rfl rfl ?_;refine Ki ?_;refine OE ?_;refine Oa ?_;refine Oc [4,6,7,9,10,11,38,52,56,57,58,59,60,61,62] ?_;refine O8 ?_ ?_
                  · intro c52;refine Oe ?_;refine Oa ?_;refine Oa ?_;refine Oc [2,3] ?_;refine Ok ?_;refine Ox ?_;refine mtQ.ret ?_;refine Ox ?_;refine Kc ?_;refine Ox ?_;refine Oq ?_;refine OI ?_;have hb0:badW c w=10:=by
                      rw[badW_nat hcm hne];clear hS hw hfr hnm hre hd1 hd2 hnw hfm hfe hlm hcn hcm hne;simp_all
                    have hw0:wordsE f ((splitC 32 l).drop 1)=10:=by
                      rw[hw,wordsE,if_neg (by rw[hb0]; decide),hb0]
                    have hq:readE l=10:=by
                      rw[hre,hw0,if_pos (by decide)]
                    exact⟨⟨_,rfl,by rw[hq],fun h0=>by rw[hq] at h0; cases h0⟩,hS.keeps⟩
                  · intro c52;refine Oe ?_;refine Ob ?_;refine O1 ?_;refine Ob ?_;refine OH (dj:=67) rfl rfl true false rfl ?_ ?_
                    · intro g67;have g67:=not_of_not_decide g67;refine Ob ?_;refine Od (dj:=67) rfl rfl ?_;refine Ki ?_;refine OE ?_;refine Oa ?_;refine Oc [4,6,7,9,10,38,56,57,58,59,60,61,62,64,68,69] ?_;refine O8 ?_ ?_
                      · intro c64;refine Oe ?_;refine Oa ?_;refine Oa ?_;refine Oc [2,3] ?_;refine Ok ?_;refine Ox ?_;refine mtQ.ret ?_;refine Ox ?_;refine Kc ?_;refine Ox ?_;refine Oq ?_;refine OI ?_;have hb0:badW c w=9:=by
                          rw[badW_nat hcm hne];clear hS hw hfr hnm hre hd1 hd2 hnw hfm hfe hlm hcn hcm hne;simp_all
                        have hw0:wordsE f ((splitC 32 l).drop 1)=9:=by
                          rw[hw,wordsE,if_neg (by rw[hb0]; decide),hb0]
                        have hq:readE l=9:=by
                          rw[hre,hw0,if_pos (by decide)]
                        exact⟨⟨_,rfl,by rw[hq],fun h0=>by rw[hq] at h0; cases h0⟩,hS.keeps⟩
                      · intro c64;refine Oo ?_;refine Oe ?_;refine Ob ?_;refine ON ?_;refine Ob ?_;refine OH (dj:=74) rfl rfl true false rfl ?_ ?_
                        · intro g74;have g74:=of_decide_eq_true g74;refine Ob ?_;refine Od (dj:=74) rfl rfl ?_;refine ON ?_;refine OE ?_;refine Oa ?_;refine Oc [4,6,7,9,10,38,56,57,58,59,60,61,62,68,69,71,75,76] ?_;refine Ou ?_ ?_
                          · intro c71;refine OC ?_;refine Oh ?_;refine Ou ?_ ?_
                            · intro c71;refine Oy rfl ?_;refine Oa ?_;refine Oj ?_;refine Ot ?_;have hfn1:=farW_nat (w:=w) hcm;have hbn1:=badW_nat hcm hne
                              first
                                | (exfalso; omega)
                                | (have hfw:farW c w=false:=by
                                     rw[hfn1]; clear hS hw hfr hnm hre hd1 hd2 hnw hfm hfe hlm hcn hcm hne hbn1; simp_all
                                   have hbw:badW c w=0:=by
                                     rw[hbn1]; clear hS hw hfr hnm hre hd1 hd2 hnw hfm hfe hlm hcn hcm hne hfn1 hfw; simp_all
                                   exact mtN eb ⟨hbw,by rw[hfw,Bool.or_false],hS⟩)
                                | (have hfw:farW c w=true:=by
                                     rw[hfn1]; clear hS hw hfr hnm hre hd1 hd2 hnw hfm hfe hlm hcn hcm hne hbn1; simp_all
                                   have hbw:badW c w=0:=by
                                     rw[hbn1]; clear hS hw hfr hnm hre hd1 hd2 hnw hfm hfe hlm hcn hcm hne hfn1 hfw; simp_all
                                   exact mtN true ⟨hbw,by rw[hfw,Bool.or_true],hS⟩)
                            · intro c71;refine OC ?_;refine Ot ?_;have hfn1:=farW_nat (w:=w) hcm;have hbn1:=badW_nat hcm hne
                              first
                                | (exfalso; omega)
                                | (have hfw:farW c w=false:=by
                                     rw[hfn1]; clear hS hw hfr hnm hre hd1 hd2 hnw hfm hfe hlm hcn hcm hne hbn1; simp_all
                                   have hbw:badW c w=0:=by
                                     rw[hbn1]; clear hS hw hfr hnm hre hd1 hd2 hnw hfm hfe hlm hcn hcm hne hfn1 hfw; simp_all
                                   exact mtN eb ⟨hbw,by rw[hfw,Bool.or_false],hS⟩)
                                | (have hfw:farW c w=true:=by
                                     rw[hfn1]; clear hS hw hfr hnm hre hd1 hd2 hnw hfm hfe hlm hcn hcm hne hbn1; simp_all
                                   have hbw:badW c w=0:=by
                                     rw[hbn1]; clear hS hw hfr hnm hre hd1 hd2 hnw hfm hfe hlm hcn hcm hne hfn1 hfw; simp_all
                                   exact mtN true ⟨hbw,by rw[hfw,Bool.or_true],hS⟩)
                          · intro c71;refine Oy rfl ?_;refine Ob ?_;refine ON ?_;refine Ob ?_;refine OH (dj:=80) rfl rfl true false rfl ?_ ?_
                            · intro g80;have g80:=of_decide_eq_true g80;refine Ob ?_;refine Od (dj:=80) rfl rfl ?_;refine Ka ?_;refine OE ?_;refine Oa ?_;refine Oc [4,6,7,9,10,38,56,57,58,59,60,61,62,68,69,71,75,76,81,82] ?_;refine Ou ?_ ?_
                              · intro c71;refine Oy rfl ?_;refine Oa ?_;refine Oj ?_;refine Ot ?_;have hfn1:=farW_nat (w:=w) hcm;have hbn1:=badW_nat hcm hne
                                first
                                  | (exfalso; omega)
                                  | (have hfw:farW c w=false:=by
                                       rw[hfn1]; clear hS hw hfr hnm hre hd1 hd2 hnw hfm hfe hlm hcn hcm hne hbn1; simp_all
                                     have hbw:badW c w=0:=by
                                       rw[hbn1]; clear hS hw hfr hnm hre hd1 hd2 hnw hfm hfe hlm hcn hcm hne hfn1 hfw; simp_all
                                     exact mtN eb ⟨hbw,by rw[hfw,Bool.or_false],hS⟩)
                                  | (have hfw:farW c w=true:=by
                                       rw[hfn1]; clear hS hw hfr hnm hre hd1 hd2 hnw hfm hfe hlm hcn hcm hne hbn1; simp_all
                                     have hbw:badW c w=0:=by
                                       rw[hbn1]; clear hS hw hfr hnm hre hd1 hd2 hnw hfm hfe hlm hcn hcm hne hfn1 hfw; simp_all
                                     exact mtN true ⟨hbw,by rw[hfw,Bool.or_true],hS⟩)
                              · intro c71;refine OC ?_;refine Ot ?_;have hfn1:=farW_nat (w:=w) hcm;have hbn1:=badW_nat hcm hne
                                first
                                  | (exfalso; omega)
                                  | (have hfw:farW c w=false:=by
                                       rw[hfn1]; clear hS hw hfr hnm hre hd1 hd2 hnw hfm hfe hlm hcn hcm hne hbn1; simp_all
                                     have hbw:badW c w=0:=by
                                       rw[hbn1]; clear hS hw hfr hnm hre hd1 hd2 hnw hfm hfe hlm hcn hcm hne hfn1 hfw; simp_all
                                     exact mtN eb ⟨hbw,by rw[hfw,Bool.or_false],hS⟩)
                                  | (have hfw:farW c w=true:=by
                                       rw[hfn1]; clear hS hw hfr hnm hre hd1 hd2 hnw hfm hfe hlm hcn hcm hne hbn1; simp_all
                                     have hbw:badW c w=0:=by
                                       rw[hbn1]; clear hS hw hfr hnm hre hd1 hd2 hnw hfm hfe hlm hcn hcm hne hfn1 hfw; simp_all
                                     exact mtN true ⟨hbw,by rw[hfw,Bool.or_true],hS⟩)
                            · intro g80;have g80:=of_decide_eq_false g80;refine Og (dj:=80) rfl rfl rfl ?_;refine Ow ?_;refine Oa ?_;refine Oc [4,6,7,9,10,38,56,57,58,59,60,61,62,68,69,71,75,76,81,82] ?_;refine OO ?_;refine OC ?_;refine Ot ?_;have hfn1:=farW_nat (w:=w) hcm;have hbn1:=badW_nat hcm hne
                              first
                                | (exfalso; omega)
                                | (have hfw:farW c w=false:=by
                                     rw[hfn1]; clear hS hw hfr hnm hre hd1 hd2 hnw hfm hfe hlm hcn hcm hne hbn1; simp_all
                                   have hbw:badW c w=0:=by
                                     rw[hbn1]; clear hS hw hfr hnm hre hd1 hd2 hnw hfm hfe hlm hcn hcm hne hfn1 hfw; simp_all
                                   exact mtN eb ⟨hbw,by rw[hfw,Bool.or_false],hS⟩)
                                | (have hfw:farW c w=true:=by
                                     rw[hfn1]; clear hS hw hfr hnm hre hd1 hd2 hnw hfm hfe hlm hcn hcm hne hbn1; simp_all
                                   have hbw:badW c w=0:=by
                                     rw[hbn1]; clear hS hw hfr hnm hre hd1 hd2 hnw hfm hfe hlm hcn hcm hne hfn1 hfw; simp_all
                                   exact mtN true ⟨hbw,by rw[hfw,Bool.or_true],hS⟩)
                        · intro g74;have g74:=of_decide_eq_false g74;refine Og (dj:=74) rfl rfl rfl ?_;refine Ow ?_;refine Oa ?_;refine Oc [4,6,7,9,10,38,56,57,58,59,60,61,62,68,69,71,75,76] ?_;refine OO ?_;refine Oy rfl ?_;refine Ob ?_;refine ON ?_;refine Ob ?_;refine OH (dj:=80) rfl rfl true false rfl ?_ ?_
                          · intro g80;have g80:=of_decide_eq_true g80;refine Ob ?_;refine Od (dj:=80) rfl rfl ?_;refine Ka ?_;refine OE ?_;refine Oa ?_;refine Oc [4,6,7,9,10,38,56,57,58,59,60,61,62,68,69,71,75,76,81,82] ?_;refine Ou ?_ ?_
                            · intro c71;refine Oy rfl ?_;refine Oa ?_;refine Oj ?_;refine Ot ?_;have hfn1:=farW_nat (w:=w) hcm;have hbn1:=badW_nat hcm hne
                              first
                                | (exfalso; omega)
                                | (have hfw:farW c w=false:=by
                                     rw[hfn1]; clear hS hw hfr hnm hre hd1 hd2 hnw hfm hfe hlm hcn hcm hne hbn1; simp_all
                                   have hbw:badW c w=0:=by
                                     rw[hbn1]; clear hS hw hfr hnm hre hd1 hd2 hnw hfm hfe hlm hcn hcm hne hfn1 hfw; simp_all
                                   exact mtN eb ⟨hbw,by rw[hfw,Bool.or_false],hS⟩)
                                | (have hfw:farW c w=true:=by
                                     rw[hfn1]; clear hS hw hfr hnm hre hd1 hd2 hnw hfm hfe hlm hcn hcm hne hbn1; simp_all
                                   have hbw:badW c w=0:=by
                                     rw[hbn1]; clear hS hw hfr hnm hre hd1 hd2 hnw hfm hfe hlm hcn hcm hne hfn1 hfw; simp_all
                                   exact mtN true ⟨hbw,by rw[hfw,Bool.or_true],hS⟩)
                            · intro c71;refine OC ?_;refine Ot ?_;have hfn1:=farW_nat (w:=w) hcm;have hbn1:=badW_nat hcm hne
                              first
                                | (exfalso; omega)
                                | (have hfw:farW c w=false:=by
                                     rw[hfn1]; clear hS hw hfr hnm hre hd1 hd2 hnw hfm hfe hlm hcn hcm hne hbn1; simp_all
                                   have hbw:badW c w=0:=by
                                     rw[hbn1]; clear hS hw hfr hnm hre hd1 hd2 hnw hfm hfe hlm hcn hcm hne hfn1 hfw; simp_all
                                   exact mtN eb ⟨hbw,by rw[hfw,Bool.or_false],hS⟩)
                                | (have hfw:farW c w=true:=by
                                     rw[hfn1]; clear hS hw hfr hnm hre hd1 hd2 hnw hfm hfe hlm hcn hcm hne hbn1; simp_all
                                   have hbw:badW c w=0:=by
                                     rw[hbn1]; clear hS hw hfr hnm hre hd1 hd2 hnw hfm hfe hlm hcn hcm hne hfn1 hfw; simp_all
                                   exact mtN true ⟨hbw,by rw[hfw,Bool.or_true],hS⟩)
                          · intro g80;have g80:=of_decide_eq_false g80;refine Og (dj:=80) rfl rfl rfl ?_;refine Ow ?_;refine Oa ?_;refine Oc [4,6,7,9,10,38,56,57,58,59,60,61,62,68,69,71,75,76,81,82] ?_;refine OO ?_;refine OC ?_;refine Ot ?_;have hfn1:=farW_nat (w:=w) hcm;have hbn1:=badW_nat hcm hne
                            first
                              | (exfalso; omega)
                              | (have hfw:farW c w=false:=by
                                   rw[hfn1]; clear hS hw hfr hnm hre hd1 hd2 hnw hfm hfe hlm hcn hcm hne hbn1; simp_all
                                 have hbw:badW c w=0:=by
                                   rw[hbn1]; clear hS hw hfr hnm hre hd1 hd2 hnw hfm hfe hlm hcn hcm hne hfn1 hfw; simp_all
                                 exact mtN eb ⟨hbw,by rw[hfw,Bool.or_false],hS⟩)
                              | (have hfw:farW c w=true:=by
                                   rw[hfn1]; clear hS hw hfr hnm hre hd1 hd2 hnw hfm hfe hlm hcn hcm hne hbn1; simp_all
                                 have hbw:badW c w=0:=by
                                   rw[hbn1]; clear hS hw hfr hnm hre hd1 hd2 hnw hfm hfe hlm hcn hcm hne hfn1 hfw; simp_all
                                 exact mtN true ⟨hbw,by rw[hfw,Bool.or_true],hS⟩)
                    · intro g67;have g67:=of_not_decide g67;refine Og (dj:=67) rfl rfl rfl ?_;refine Ow ?_;refine Oa ?_;refine Oc [4,6,7,9,10,38,56,57,58,59,60,61,62,64,68,69] ?_;refine OO ?_;refine Oo ?_;refine Oe ?_;refine Ob ?_;refine ON ?_;refine Ob ?_;refine OH (dj:=74) rfl rfl true false rfl ?_ ?_
                      · intro g74;have g74:=of_decide_eq_true g74;refine Ob ?_;refine Od (dj:=74) rfl rfl ?_;refine ON ?_;refine OE ?_;refine Oa ?_;refine Oc [4,6,7,9,10,38,56,57,58,59,60,61,62,68,69,71,75,76] ?_;refine Ou ?_ ?_
                        · intro c71;refine OC ?_;refine Oh ?_;refine Ou ?_ ?_
                          · intro c71;refine Oy rfl ?_;refine Oa ?_;refine Oj ?_;refine Ot ?_;have hfn1:=farW_nat (w:=w) hcm;have hbn1:=badW_nat hcm hne
                            first
                              | (exfalso; omega)
                              | (have hfw:farW c w=false:=by
                                   rw[hfn1]; clear hS hw hfr hnm hre hd1 hd2 hnw hfm hfe hlm hcn hcm hne hbn1; simp_all
                                 have hbw:badW c w=0:=by
                                   rw[hbn1]; clear hS hw hfr hnm hre hd1 hd2 hnw hfm hfe hlm hcn hcm hne hfn1 hfw; simp_all
                                 exact mtN eb ⟨hbw,by rw[hfw,Bool.or_false],hS⟩)
                              | (have hfw:farW c w=true:=by
                                   rw[hfn1]; clear hS hw hfr hnm hre hd1 hd2 hnw hfm hfe hlm hcn hcm hne hbn1; simp_all
                                 have hbw:badW c w=0:=by
                                   rw[hbn1]; clear hS hw hfr hnm hre hd1 hd2 hnw hfm hfe hlm hcn hcm hne hfn1 hfw; simp_all
                                 exact mtN true ⟨hbw,by rw[hfw,Bool.or_true],hS⟩)
                          · intro c71;refine OC ?_;refine Ot ?_;have hfn1:=farW_nat (w:=w) hcm;have hbn1:=badW_nat hcm hne
                            first
                              | (exfalso; omega)
                              | (have hfw:farW c w=false:=by
                                   rw[hfn1]; clear hS hw hfr hnm hre hd1 hd2 hnw hfm hfe hlm hcn hcm hne hbn1; simp_all
                                 have hbw:badW c w=0:=by
                                   rw[hbn1]; clear hS hw hfr hnm hre hd1 hd2 hnw hfm hfe hlm hcn hcm hne hfn1 hfw; simp_all
                                 exact mtN eb ⟨hbw,by rw[hfw,Bool.or_false],hS⟩)
                              | (have hfw:farW c w=true:=by
                                   rw[hfn1]; clear hS hw hfr hnm hre hd1 hd2 hnw hfm hfe hlm hcn hcm hne hbn1; simp_all
                                 have hbw:badW c w=0:=by
                                   rw[hbn1]; clear hS hw hfr hnm hre hd1 hd2 hnw hfm hfe hlm hcn hcm hne hfn1 hfw; simp_all
                                 exact mtN true ⟨hbw,by rw[hfw,Bool.or_true],hS⟩)
                        · intro c71;refine Oy rfl ?_;refine Ob ?_;refine ON ?_;refine Ob ?_;refine OH (dj:=80) rfl rfl true false rfl ?_ ?_
                          · intro g80;have g80:=of_decide_eq_true g80;refine Ob ?_;refine Od (dj:=80) rfl rfl ?_;refine Ka ?_;refine OE ?_;refine Oa ?_;refine Oc [4,6,7,9,10,38,56,57,58,59,60,61,62,68,69,71,75,76,81,82] ?_;refine Ou ?_ ?_
                            · intro c71;refine Oy rfl ?_;refine Oa ?_;refine Oj ?_;refine Ot ?_;have hfn1:=farW_nat (w:=w) hcm;have hbn1:=badW_nat hcm hne
                              first
                                | (exfalso; omega)
                                | (have hfw:farW c w=false:=by
                                     rw[hfn1]; clear hS hw hfr hnm hre hd1 hd2 hnw hfm hfe hlm hcn hcm hne hbn1; simp_all
                                   have hbw:badW c w=0:=by
                                     rw[hbn1]; clear hS hw hfr hnm hre hd1 hd2 hnw hfm hfe hlm hcn hcm hne hfn1 hfw; simp_all
                                   exact mtN eb ⟨hbw,by rw[hfw,Bool.or_false],hS⟩)
                                | (have hfw:farW c w=true:=by
                                     rw[hfn1]; clear hS hw hfr hnm hre hd1 hd2 hnw hfm hfe hlm hcn hcm hne hbn1; simp_all
                                   have hbw:badW c w=0:=by
                                     rw[hbn1]; clear hS hw hfr hnm hre hd1 hd2 hnw hfm hfe hlm hcn hcm hne hfn1 hfw; simp_all
                                   exact mtN true ⟨hbw,by rw[hfw,Bool.or_true],hS⟩)
                            · intro c71;refine OC ?_;refine Ot ?_;have hfn1:=farW_nat (w:=w) hcm;have hbn1:=badW_nat hcm hne
                              first
                                | (exfalso; omega)
                                | (have hfw:farW c w=false:=by
                                     rw[hfn1]; clear hS hw hfr hnm hre hd1 hd2 hnw hfm hfe hlm hcn hcm hne hbn1; simp_all
                                   have hbw:badW c w=0:=by
                                     rw[hbn1]; clear hS hw hfr hnm hre hd1 hd2 hnw hfm hfe hlm hcn hcm hne hfn1 hfw; simp_all
                                   exact mtN eb ⟨hbw,by rw[hfw,Bool.or_false],hS⟩)
                                | (have hfw:farW c w=true:=by
                                     rw[hfn1]; clear hS hw hfr hnm hre hd1 hd2 hnw hfm hfe hlm hcn hcm hne hbn1; simp_all
                                   have hbw:badW c w=0:=by
                                     rw[hbn1]; clear hS hw hfr hnm hre hd1 hd2 hnw hfm hfe hlm hcn hcm hne hfn1 hfw; simp_all
                                   exact mtN true ⟨hbw,by rw[hfw,Bool.or_true],hS⟩)
                          · intro g80;have g80:=of_decide_eq_false g80;refine Og (dj:=80) rfl rfl rfl ?_;refine Ow ?_;refine Oa ?_;refine Oc [4,6,7,9,10,38,56,57,58,59,60,61,62,68,69,71,75,76,81,82] ?_;refine OO ?_;refine OC ?_;refine Ot ?_;have hfn1:=farW_nat (w:=w) hcm;have hbn1:=badW_nat hcm hne
                            first
                              | (exfalso; omega)
                              | (have hfw:farW c w=false:=by
                                   rw[hfn1]; clear hS hw hfr hnm hre hd1 hd2 hnw hfm hfe hlm hcn hcm hne hbn1; simp_all
                                 have hbw:badW c w=0:=by
                                   rw[hbn1]; clear hS hw hfr hnm hre hd1 hd2 hnw hfm hfe hlm hcn hcm hne hfn1 hfw; simp_all
                                 exact mtN eb ⟨hbw,by rw[hfw,Bool.or_false],hS⟩)
                              | (have hfw:farW c w=true:=by
                                   rw[hfn1]; clear hS hw hfr hnm hre hd1 hd2 hnw hfm hfe hlm hcn hcm hne hbn1; simp_all
                                 have hbw:badW c w=0:=by
                                   rw[hbn1]; clear hS hw hfr hnm hre hd1 hd2 hnw hfm hfe hlm hcn hcm hne hfn1 hfw; simp_all
                                 exact mtN true ⟨hbw,by rw[hfw,Bool.or_true],hS⟩)
                      · intro g74;have g74:=of_decide_eq_false g74;refine Og (dj:=74) rfl rfl rfl ?_;refine Ow ?_;refine Oa ?_;refine Oc [4,6,7,9,10,38,56,57,58,59,60,61,62,68,69,71,75,76] ?_;refine OO ?_;refine Oy rfl ?_;refine Ob ?_;refine ON ?_;refine Ob ?_;refine OH (dj:=80) rfl rfl true false rfl ?_ ?_
                        · intro g80;have g80:=of_decide_eq_true g80;refine Ob ?_;refine Od (dj:=80) rfl rfl ?_;refine Ka ?_;refine OE ?_;refine Oa ?_;refine Oc [4,6,7,9,10,38,56,57,58,59,60,61,62,68,69,71,75,76,81,82] ?_;refine Ou ?_ ?_
                          · intro c71;refine Oy rfl ?_;refine Oa ?_;refine Oj ?_;refine Ot ?_;have hfn1:=farW_nat (w:=w) hcm;have hbn1:=badW_nat hcm hne
                            first
                              | (exfalso; omega)
                              | (have hfw:farW c w=false:=by
                                   rw[hfn1]; clear hS hw hfr hnm hre hd1 hd2 hnw hfm hfe hlm hcn hcm hne hbn1; simp_all
                                 have hbw:badW c w=0:=by
                                   rw[hbn1]; clear hS hw hfr hnm hre hd1 hd2 hnw hfm hfe hlm hcn hcm hne hfn1 hfw; simp_all
                                 exact mtN eb ⟨hbw,by rw[hfw,Bool.or_false],hS⟩)
                              | (have hfw:farW c w=true:=by
                                   rw[hfn1]; clear hS hw hfr hnm hre hd1 hd2 hnw hfm hfe hlm hcn hcm hne hbn1; simp_all
                                 have hbw:badW c w=0:=by
                                   rw[hbn1]; clear hS hw hfr hnm hre hd1 hd2 hnw hfm hfe hlm hcn hcm hne hfn1 hfw; simp_all
                                 exact mtN true ⟨hbw,by rw[hfw,Bool.or_true],hS⟩)
                          · intro c71;refine OC ?_;refine Ot ?_;have hfn1:=farW_nat (w:=w) hcm;have hbn1:=badW_nat hcm hne
                            first
                              | (exfalso; omega)
                              | (have hfw:farW c w=false:=by
                                   rw[hfn1]; clear hS hw hfr hnm hre hd1 hd2 hnw hfm hfe hlm hcn hcm hne hbn1; simp_all
                                 have hbw:badW c w=0:=by
                                   rw[hbn1]; clear hS hw hfr hnm hre hd1 hd2 hnw hfm hfe hlm hcn hcm hne hfn1 hfw; simp_all
                                 exact mtN eb ⟨hbw,by rw[hfw,Bool.or_false],hS⟩)
                              | (have hfw:farW c w=true:=by
                                   rw[hfn1]; clear hS hw hfr hnm hre hd1 hd2 hnw hfm hfe hlm hcn hcm hne hbn1; simp_all
                                 have hbw:badW c w=0:=by
                                   rw[hbn1]; clear hS hw hfr hnm hre hd1 hd2 hnw hfm hfe hlm hcn hcm hne hfn1 hfw; simp_all
                                 exact mtN true ⟨hbw,by rw[hfw,Bool.or_true],hS⟩)
                        · intro g80;have g80:=of_decide_eq_false g80;refine Og (dj:=80) rfl rfl rfl ?_;refine Ow ?_;refine Oa ?_;refine Oc [4,6,7,9,10,38,56,57,58,59,60,61,62,68,69,71,75,76,81,82] ?_;refine OO ?_;refine OC ?_;refine Ot ?_;have hfn1:=farW_nat (w:=w) hcm;have hbn1:=badW_nat hcm hne
                          first
                            | (exfalso; omega)
                            | (have hfw:farW c w=false:=by
                                 rw[hfn1]; clear hS hw hfr hnm hre hd1 hd2 hnw hfm hfe hlm hcn hcm hne hbn1; simp_all
                               have hbw:badW c w=0:=by
                                 rw[hbn1]; clear hS hw hfr hnm hre hd1 hd2 hnw hfm hfe hlm hcn hcm hne hfn1 hfw; simp_all
                               exact mtN eb ⟨hbw,by rw[hfw,Bool.or_false],hS⟩)
                            | (have hfw:farW c w=true:=by
                                 rw[hfn1]; clear hS hw hfr hnm hre hd1 hd2 hnw hfm hfe hlm hcn hcm hne hbn1; simp_all
                               have hbw:badW c w=0:=by
                                 rw[hbn1]; clear hS hw hfr hnm hre hd1 hd2 hnw hfm hfe hlm hcn hcm hne hfn1 hfw; simp_all
                               exact mtN true ⟨hbw,by rw[hfw,Bool.or_true],hS⟩)
                · intro g55;have g55:=of_decide_eq_false g55;refine Og (dj:=55) rfl rfl rfl ?_;refine Og (dj:=55) rfl rfl rfl ?_;refine Og (dj:=55) rfl rfl rfl ?_;refine Og (dj:=55) rfl rfl rfl ?_;refine Og (dj:=55) rfl rfl rfl ?_;refine Og (dj:=55) rfl rfl rfl ?_;refine Ow ?_;refine Oa ?_;refine Oc [4,6,7,9,10,11,38,52,56,57,58,59,60,61,62] ?_;refine OO ?_;refine Oe ?_;refine Ob ?_;refine O1 ?_;refine Ob ?_;refine OH (dj:=67) rfl rfl true false rfl ?_ ?_
                  · intro g67;have g67:=not_of_not_decide g67;refine Ob ?_;refine Od (dj:=67) rfl rfl ?_;refine Ki ?_;refine OE ?_;refine Oa ?_;refine Oc [4,6,7,9,10,38,56,57,58,59,60,61,62,64,68,69] ?_;refine O8 ?_ ?_
                    · intro c64;refine Oe ?_;refine Oa ?_;refine Oa ?_;refine Oc [2,3] ?_;refine Ok ?_;refine Ox ?_;refine mtQ.ret ?_;refine Ox ?_;refine Kc ?_;refine Ox ?_;refine Oq ?_;refine OI ?_;have hb0:badW c w=9:=by
                        rw[badW_nat hcm hne];clear hS hw hfr hnm hre hd1 hd2 hnw hfm hfe hlm hcn hcm hne;simp_all
                      have hw0:wordsE f ((splitC 32 l).drop 1)=9:=by
                        rw[hw,wordsE,if_neg (by rw[hb0]; decide),hb0]
                      have hq:readE l=9:=by
                        rw[hre,hw0,if_pos (by decide)]
                      exact⟨⟨_,rfl,by rw[hq],fun h0=>by rw[hq] at h0; cases h0⟩,hS.keeps⟩
                    · intro c64;refine Oo ?_;refine Oe ?_;refine Ob ?_;refine ON ?_;refine Ob ?_;refine OH (dj:=74) rfl rfl true false rfl ?_ ?_
                      · intro g74;have g74:=of_decide_eq_true g74;refine Ob ?_;refine Od (dj:=74) rfl rfl ?_;refine ON ?_;refine OE ?_;refine Oa ?_;refine Oc [4,6,7,9,10,38,56,57,58,59,60,61,62,68,69,71,75,76] ?_;refine Ou ?_ ?_
                        · intro c71;refine OC ?_;refine Oh ?_;refine Ou ?_ ?_
                          · intro c71;refine Oy rfl ?_;refine Oa ?_;refine Oj ?_;refine Ot ?_;have hfn1:=farW_nat (w:=w) hcm;have hbn1:=badW_nat hcm hne
                            first
                              | (exfalso; omega)
                              | (have hfw:farW c w=false:=by
                                   rw[hfn1]; clear hS hw hfr hnm hre hd1 hd2 hnw hfm hfe hlm hcn hcm hne hbn1; simp_all
                                 have hbw:badW c w=0:=by
                                   rw[hbn1]; clear hS hw hfr hnm hre hd1 hd2 hnw hfm hfe hlm hcn hcm hne hfn1 hfw; simp_all
                                 exact mtN eb ⟨hbw,by rw[hfw,Bool.or_false],hS⟩)
                              | (have hfw:farW c w=true:=by
                                   rw[hfn1]; clear hS hw hfr hnm hre hd1 hd2 hnw hfm hfe hlm hcn hcm hne hbn1; simp_all
                                 have hbw:badW c w=0:=by
                                   rw[hbn1]; clear hS hw hfr hnm hre hd1 hd2 hnw hfm hfe hlm hcn hcm hne hfn1 hfw; simp_all
                                 exact mtN true ⟨hbw,by rw[hfw,Bool.or_true],hS⟩)
                          · intro c71;refine OC ?_;refine Ot ?_;have hfn1:=farW_nat (w:=w) hcm;have hbn1:=badW_nat hcm hne
                            first
                              | (exfalso; omega)
                              | (have hfw:farW c w=false:=by
                                   rw[hfn1]; clear hS hw hfr hnm hre hd1 hd2 hnw hfm hfe hlm hcn hcm hne hbn1; simp_all
                                 have hbw:badW c w=0:=by
                                   rw[hbn1]; clear hS hw hfr hnm hre hd1 hd2 hnw hfm hfe hlm hcn hcm hne hfn1 hfw; simp_all
                                 exact mtN eb ⟨hbw,by rw[hfw,Bool.or_false],hS⟩)
                              | (have hfw:farW c w=true:=by
                                   rw[hfn1]; clear hS hw hfr hnm hre hd1 hd2 hnw hfm hfe hlm hcn hcm hne hbn1; simp_all
                                 have hbw:badW c w=0:=by
                                   rw[hbn1]; clear hS hw hfr hnm hre hd1 hd2 hnw hfm hfe hlm hcn hcm hne hfn1 hfw; simp_all
                                 exact mtN true ⟨hbw,by rw[hfw,Bool.or_true],hS⟩)
                        · intro c71;refine Oy rfl ?_;refine Ob ?_;refine ON ?_;refine Ob ?_;refine OH (dj:=80) rfl rfl true false rfl ?_ ?_
                          · intro g80;have g80:=of_decide_eq_true g80;refine Ob ?_;refine Od (dj:=80) rfl rfl ?_;refine Ka ?_;refine OE ?_;refine Oa ?_;refine Oc [4,6,7,9,10,38,56,57,58,59,60,61,62,68,69,71,75,76,81,82] ?_;refine Ou ?_ ?_
                            · intro c71;refine Oy rfl ?_;refine Oa ?_;refine Oj ?_;refine Ot ?_;have hfn1:=farW_nat (w:=w) hcm;have hbn1:=badW_nat hcm hne
                              first
                                | (exfalso; omega)
                                | (have hfw:farW c w=false:=by
                                     rw[hfn1]; clear hS hw hfr hnm hre hd1 hd2 hnw hfm hfe hlm hcn hcm hne hbn1; simp_all
                                   have hbw:badW c w=0:=by
                                     rw[hbn1]; clear hS hw hfr hnm hre hd1 hd2 hnw hfm hfe hlm hcn hcm hne hfn1 hfw; simp_all
                                   exact mtN eb ⟨hbw,by rw[hfw,Bool.or_false],hS⟩)
                                | (have hfw:farW c w=true:=by
                                     rw[hfn1]; clear hS hw hfr hnm hre hd1 hd2 hnw hfm hfe hlm hcn hcm hne hbn1; simp_all
                                   have hbw:badW c w=0:=by
                                     rw[hbn1]; clear hS hw hfr hnm hre hd1 hd2 hnw hfm hfe hlm hcn hcm hne hfn1 hfw; simp_all
                                   exact mtN true ⟨hbw,by rw[hfw,Bool.or_true],hS⟩)
                            · intro c71;refine OC ?_;refine Ot ?_;have hfn1:=farW_nat (w:=w) hcm;have hbn1:=badW_nat hcm hne
                              first
                                | (exfalso; omega)
                                | (have hfw:farW c w=false:=by
                                     rw[hfn1]; clear hS hw hfr hnm hre hd1 hd2 hnw hfm hfe hlm hcn hcm hne hbn1; simp_all
                                   have hbw:badW c w=0:=by
                                     rw[hbn1]; clear hS hw hfr hnm hre hd1 hd2 hnw hfm hfe hlm hcn hcm hne hfn1 hfw; simp_all
                                   exact mtN eb ⟨hbw,by rw[hfw,Bool.or_false],hS⟩)
                                | (have hfw:farW c w=true:=by
                                     rw[hfn1]; clear hS hw hfr hnm hre hd1 hd2 hnw hfm hfe hlm hcn hcm hne hbn1; simp_all
                                   have hbw:badW c w=0:=by
                                     rw[hbn1]; clear hS hw hfr hnm hre hd1 hd2 hnw hfm hfe hlm hcn hcm hne hfn1 hfw; simp_all
                                   exact mtN true ⟨hbw,by rw[hfw,Bool.or_true],hS⟩)
                          · intro g80;have g80:=of_decide_eq_false g80;refine Og (dj:=80) rfl rfl rfl ?_;refine Ow ?_;refine Oa ?_;refine Oc [4,6,7,9,10,38,56,57,58,59,60,61,62,68,69,71,75,76,81,82] ?_;refine OO ?_;refine OC ?_;refine Ot ?_;have hfn1:=farW_nat (w:=w) hcm;have hbn1:=badW_nat hcm hne
                            first
                              | (exfalso; omega)
                              | (have hfw:farW c w=false:=by
                                   rw[hfn1]; clear hS hw hfr hnm hre hd1 hd2 hnw hfm hfe hlm hcn hcm hne hbn1; simp_all
                                 have hbw:badW c w=0:=by
                                   rw[hbn1]; clear hS hw hfr hnm hre hd1 hd2 hnw hfm hfe hlm hcn hcm hne hfn1 hfw; simp_all
                                 exact mtN eb ⟨hbw,by rw[hfw,Bool.or_false],hS⟩)
                              | (have hfw:farW c w=true:=by
                                   rw[hfn1]; clear hS hw hfr hnm hre hd1 hd2 hnw hfm hfe hlm hcn hcm hne hbn1; simp_all
                                 have hbw:badW c w=0:=by
                                   rw[hbn1]; clear hS hw hfr hnm hre hd1 hd2 hnw hfm hfe hlm hcn hcm hne hfn1 hfw; simp_all
                                 exact mtN true ⟨hbw,by rw[hfw,Bool.or_true],hS⟩)
                      · intro g74;have g74:=of_decide_eq_false g74;refine Og (dj:=74) rfl rfl rfl ?_;refine Ow ?_;refine Oa ?_;refine Oc [4,6,7,9,10,38,56,57,58,59,60,61,62,68,69,71,75,76] ?_;refine OO ?_;refine Oy rfl ?_;refine Ob ?_;refine ON ?_;refine Ob ?_;refine OH (dj:=80) rfl rfl true false rfl ?_ ?_
                        · intro g80;have g80:=of_decide_eq_true g80;refine Ob ?_;refine Od (dj:=80) rfl rfl ?_;refine Ka ?_;refine OE ?_;refine Oa ?_;refine Oc [4,6,7,9,10,38,56,57,58,59,60,61,62,68,69,71,75,76,81,82] ?_;refine Ou ?_ ?_
                          · intro c71;refine Oy rfl ?_;refine Oa ?_;refine Oj ?_;refine Ot ?_;have hfn1:=farW_nat (w:=w) hcm;have hbn1:=badW_nat hcm hne
                            first
                              | (exfalso; omega)
                              | (have hfw:farW c w=false:=by
                                   rw[hfn1]; clear hS hw hfr hnm hre hd1 hd2 hnw hfm hfe hlm hcn hcm hne hbn1; simp_all
                                 have hbw:badW c w=0:=by
                                   rw[hbn1]; clear hS hw hfr hnm hre hd1 hd2 hnw hfm hfe hlm hcn hcm hne hfn1 hfw; simp_all
                                 exact mtN eb ⟨hbw,by rw[hfw,Bool.or_false],hS⟩)
                              | (have hfw:farW c w=true:=by
                                   rw[hfn1]; clear hS hw hfr hnm hre hd1 hd2 hnw hfm hfe hlm hcn hcm hne hbn1; simp_all
                                 have hbw:badW c w=0:=by
                                   rw[hbn1]; clear hS hw hfr hnm hre hd1 hd2 hnw hfm hfe hlm hcn hcm hne hfn1 hfw; simp_all
                                 exact mtN true ⟨hbw,by rw[hfw,Bool.or_true],hS⟩)
                          · intro c71;refine OC ?_;refine Ot ?_;have hfn1:=farW_nat (w:=w) hcm;have hbn1:=badW_nat hcm hne
                            first
                              | (exfalso; omega)
                              | (have hfw:farW c w=false:=by
                                   rw[hfn1]; clear hS hw hfr hnm hre hd1 hd2 hnw hfm hfe hlm hcn hcm hne hbn1; simp_all
                                 have hbw:badW c w=0:=by
                                   rw[hbn1]; clear hS hw hfr hnm hre hd1 hd2 hnw hfm hfe hlm hcn hcm hne hfn1 hfw; simp_all
                                 exact mtN eb ⟨hbw,by rw[hfw,Bool.or_false],hS⟩)
                              | (have hfw:farW c w=true:=by
                                   rw[hfn1]; clear hS hw hfr hnm hre hd1 hd2 hnw hfm hfe hlm hcn hcm hne hbn1; simp_all
                                 have hbw:badW c w=0:=by
                                   rw[hbn1]; clear hS hw hfr hnm hre hd1 hd2 hnw hfm hfe hlm hcn hcm hne hfn1 hfw; simp_all
                                 exact mtN true ⟨hbw,by rw[hfw,Bool.or_true],hS⟩)
                        · intro g80;have g80:=of_decide_eq_false g80;refine Og (dj:=80) rfl rfl rfl ?_;refine Ow ?_;refine Oa ?_;refine Oc [4,6,7,9,10,38,56,57,58,59,60,61,62,68,69,71,75,76,81,82] ?_;refine OO ?_;refine OC ?_;refine Ot ?_;have hfn1:=farW_nat (w:=w) hcm;have hbn1:=badW_nat hcm hne
                          first
                            | (exfalso; omega)
                            | (have hfw:farW c w=false:=by
                                 rw[hfn1]; clear hS hw hfr hnm hre hd1 hd2 hnw hfm hfe hlm hcn hcm hne hbn1; simp_all
                               have hbw:badW c w=0:=by
                                 rw[hbn1]; clear hS hw hfr hnm hre hd1 hd2 hnw hfm hfe hlm hcn hcm hne hfn1 hfw; simp_all
                               exact mtN eb ⟨hbw,by rw[hfw,Bool.or_false],hS⟩)
                            | (have hfw:farW c w=true:=by
                                 rw[hfn1]; clear hS hw hfr hnm hre hd1 hd2 hnw hfm hfe hlm hcn hcm hne hbn1; simp_all
                               have hbw:badW c w=0:=by
                                 rw[hbn1]; clear hS hw hfr hnm hre hd1 hd2 hnw hfm hfe hlm hcn hcm hne hfn1 hfw; simp_all
                               exact mtN true ⟨hbw,by rw[hfw,Bool.or_true],hS⟩)
                  · intro g67;have g67:=of_not_decide g67;refine Og (dj:=67) rfl rfl rfl ?_;refine Ow ?_;refine Oa ?_;refine Oc [4,6,7,9,10,38,56,57,58,59,60,61,62,64,68,69] ?_;refine OO ?_;refine Oo ?_;refine Oe ?_;refine Ob ?_;refine ON ?_;refine Ob ?_;refine OH (dj:=74) rfl rfl true false rfl ?_ ?_
                    · intro g74;have g74:=of_decide_eq_true g74;refine Ob ?_;refine Od (dj:=74) rfl rfl ?_;refine ON ?_;refine OE ?_;refine Oa ?_;refine Oc [4,6,7,9,10,38,56,57,58,59,60,61,62,68,69,71,75,76] ?_;refine Ou ?_ ?_
                      · intro c71;refine OC ?_;refine Oh ?_;refine Ou ?_ ?_
                        · intro c71;refine Oy rfl ?_;refine Oa ?_;refine Oj ?_;refine Ot ?_;have hfn1:=farW_nat (w:=w) hcm;have hbn1:=badW_nat hcm hne
                          first
                            | (exfalso; omega)
                            | (have hfw:farW c w=false:=by
                                 rw[hfn1]; clear hS hw hfr hnm hre hd1 hd2 hnw hfm hfe hlm hcn hcm hne hbn1; simp_all
                               have hbw:badW c w=0:=by
                                 rw[hbn1]; clear hS hw hfr hnm hre hd1 hd2 hnw hfm hfe hlm hcn hcm hne hfn1 hfw; simp_all
                               exact mtN eb ⟨hbw,by rw[hfw,Bool.or_false],hS⟩)
                            | (have hfw:farW c w=true:=by
                                 rw[hfn1]; clear hS hw hfr hnm hre hd1 hd2 hnw hfm hfe hlm hcn hcm hne hbn1; simp_all
                               have hbw:badW c w=0:=by
                                 rw[hbn1]; clear hS hw hfr hnm hre hd1 hd2 hnw hfm hfe hlm hcn hcm hne hfn1 hfw; simp_all
                               exact mtN true ⟨hbw,by rw[hfw,Bool.or_true],hS⟩)
                        · intro c71;refine OC ?_;refine Ot ?_;have hfn1:=farW_nat (w:=w) hcm;have hbn1:=badW_nat hcm hne
                          first
                            | (exfalso; omega)
                            | (have hfw:farW c w=false:=by
                                 rw[hfn1]; clear hS hw hfr hnm hre hd1 hd2 hnw hfm hfe hlm hcn hcm hne hbn1; simp_all
                               have hbw:badW c w=0:=by
                                 rw[hbn1]; clear hS hw hfr hnm hre hd1 hd2 hnw hfm hfe hlm hcn hcm hne hfn1 hfw; simp_all
                               exact mtN eb ⟨hbw,by rw[hfw,Bool.or_false],hS⟩)
                            | (have hfw:farW c w=true:=by
                                 rw[hfn1]; clear hS hw hfr hnm hre hd1 hd2 hnw hfm hfe hlm hcn hcm hne hbn1; simp_all
                               have hbw:badW c w=0:=by
                                 rw[hbn1]; clear hS hw hfr hnm hre hd1 hd2 hnw hfm hfe hlm hcn hcm hne hfn1 hfw; simp_all
                               exact mtN true ⟨hbw,by rw[hfw,Bool.or_true],hS⟩)
                      · intro c71;refine Oy rfl ?_;refine Ob ?_;refine ON ?_;refine Ob ?_;refine OH (dj:=80) rfl rfl true false rfl ?_ ?_
                        · intro g80;have g80:=of_decide_eq_true g80;refine Ob ?_;refine Od (dj:=80) rfl rfl ?_;refine Ka ?_;refine OE ?_;refine Oa ?_;refine Oc [4,6,7,9,10,38,56,57,58,59,60,61,62,68,69,71,75,76,81,82] ?_;refine Ou ?_ ?_
                          · intro c71;refine Oy rfl ?_;refine Oa ?_;refine Oj ?_;refine Ot ?_;have hfn1:=farW_nat (w:=w) hcm;have hbn1:=badW_nat hcm hne
                            first
                              | (exfalso; omega)
                              | (have hfw:farW c w=false:=by
                                   rw[hfn1]; clear hS hw hfr hnm hre hd1 hd2 hnw hfm hfe hlm hcn hcm hne hbn1; simp_all
                                 have hbw:badW c w=0:=by
                                   rw[hbn1]; clear hS hw hfr hnm hre hd1 hd2 hnw hfm hfe hlm hcn hcm hne hfn1 hfw; simp_all
                                 exact mtN eb ⟨hbw,by rw[hfw,Bool.or_false],hS⟩)
                              | (have hfw:farW c w=true:=by
                                   rw[hfn1]; clear hS hw hfr hnm hre hd1 hd2 hnw hfm hfe hlm hcn hcm hne hbn1; simp_all
                                 have hbw:badW c w=0:=by
                                   rw[hbn1]; clear hS hw hfr hnm hre hd1 hd2 hnw hfm hfe hlm hcn hcm hne hfn1 hfw; simp_all
                                 exact mtN true ⟨hbw,by rw[hfw,Bool.or_true],hS⟩)
                          · intro c71;refine OC ?_;refine Ot ?_;have hfn1:=farW_nat (w:=w) hcm;have hbn1:=badW_nat hcm hne
                            first
                              | (exfalso; omega)
                              | (have hfw:farW c w=false:=by
                                   rw[hfn1]; clear hS hw hfr hnm hre hd1 hd2 hnw hfm hfe hlm hcn hcm hne hbn1; simp_all
                                 have hbw:badW c w=0:=by
                                   rw[hbn1]; clear hS hw hfr hnm hre hd1 hd2 hnw hfm hfe hlm hcn hcm hne hfn1 hfw; simp_all
                                 exact mtN eb ⟨hbw,by rw[hfw,Bool.or_false],hS⟩)
                              | (have hfw:farW c w=true:=by
                                   rw[hfn1]; clear hS hw hfr hnm hre hd1 hd2 hnw hfm hfe hlm hcn hcm hne hbn1; simp_all
                                 have hbw:badW c w=0:=by
                                   rw[hbn1]; clear hS hw hfr hnm hre hd1 hd2 hnw hfm hfe hlm hcn hcm hne hfn1 hfw; simp_all
                                 exact mtN true ⟨hbw,by rw[hfw,Bool.or_true],hS⟩)
                        · intro g80;have g80:=of_decide_eq_false g80;refine Og (dj:=80) rfl rfl rfl ?_;refine Ow ?_;refine Oa ?_;refine Oc [4,6,7,9,10,38,56,57,58,59,60,61,62,68,69,71,75,76,81,82] ?_;refine OO ?_;refine OC ?_;refine Ot ?_;have hfn1:=farW_nat (w:=w) hcm;have hbn1:=badW_nat hcm hne
                          first
                            | (exfalso; omega)
                            | (have hfw:farW c w=false:=by
                                 rw[hfn1]; clear hS hw hfr hnm hre hd1 hd2 hnw hfm hfe hlm hcn hcm hne hbn1; simp_all
                               have hbw:badW c w=0:=by
                                 rw[hbn1]; clear hS hw hfr hnm hre hd1 hd2 hnw hfm hfe hlm hcn hcm hne hfn1 hfw; simp_all
                               exact mtN eb ⟨hbw,by rw[hfw,Bool.or_false],hS⟩)
                            | (have hfw:farW c w=true:=by
                                 rw[hfn1]; clear hS hw hfr hnm hre hd1 hd2 hnw hfm hfe hlm hcn hcm hne hbn1; simp_all
                               have hbw:badW c w=0:=by
                                 rw[hbn1]; clear hS hw hfr hnm hre hd1 hd2 hnw hfm hfe hlm hcn hcm hne hfn1 hfw; simp_all
                               exact mtN true ⟨hbw,by rw[hfw,Bool.or_true],hS⟩)
                    · intro g74;have g74:=of_decide_eq_false g74;refine Og (dj:=74) rfl rfl rfl ?_;refine Ow ?_;refine Oa ?_;refine Oc [4,6,7,9,10,38,56,57,58,59,60,61,62,68,69,71,75,76] ?_;refine OO ?_;refine Oy rfl ?_;refine Ob ?_;refine ON ?_;refine Ob ?_;refine OH (dj:=80) rfl rfl true false rfl ?_ ?_
                      · intro g80;have g80:=of_decide_eq_true g80;refine Ob ?_;refine Od (dj:=80) rfl rfl ?_;refine Ka ?_;refine OE ?_;refine Oa ?_;refine Oc [4,6,7,9,10,38,56,57,58,59,60,61,62,68,69,71,75,76,81,82] ?_;refine Ou ?_ ?_
                        · intro c71;refine Oy rfl ?_;refine Oa ?_;refine Oj ?_;refine Ot ?_;have hfn1:=farW_nat (w:=w) hcm;have hbn1:=badW_nat hcm hne
                          first
                            | (exfalso; omega)
                            | (have hfw:farW c w=false:=by
                                 rw[hfn1]; clear hS hw hfr hnm hre hd1 hd2 hnw hfm hfe hlm hcn hcm hne hbn1; simp_all
                               have hbw:badW c w=0:=by
                                 rw[hbn1]; clear hS hw hfr hnm hre hd1 hd2 hnw hfm hfe hlm hcn hcm hne hfn1 hfw; simp_all
                               exact mtN eb ⟨hbw,by rw[hfw,Bool.or_false],hS⟩)
                            | (have hfw:farW c w=true:=by
                                 rw[hfn1]; clear hS hw hfr hnm hre hd1 hd2 hnw hfm hfe hlm hcn hcm hne hbn1; simp_all
                               have hbw:badW c w=0:=by
                                 rw[hbn1]; clear hS hw hfr hnm hre hd1 hd2 hnw hfm hfe hlm hcn hcm hne hfn1 hfw; simp_all
                               exact mtN true ⟨hbw,by rw[hfw,Bool.or_true],hS⟩)
                        · intro c71;refine OC ?_;refine Ot ?_;have hfn1:=farW_nat (w:=w) hcm;have hbn1:=badW_nat hcm hne
                          first
                            | (exfalso; omega)
                            | (have hfw:farW c w=false:=by
                                 rw[hfn1]; clear hS hw hfr hnm hre hd1 hd2 hnw hfm hfe hlm hcn hcm hne hbn1; simp_all
                               have hbw:badW c w=0:=by
                                 rw[hbn1]; clear hS hw hfr hnm hre hd1 hd2 hnw hfm hfe hlm hcn hcm hne hfn1 hfw; simp_all
                               exact mtN eb ⟨hbw,by rw[hfw,Bool.or_false],hS⟩)
                            | (have hfw:farW c w=true:=by
                                 rw[hfn1]; clear hS hw hfr hnm hre hd1 hd2 hnw hfm hfe hlm hcn hcm hne hbn1; simp_all
                               have hbw:badW c w=0:=by
                                 rw[hbn1]; clear hS hw hfr hnm hre hd1 hd2 hnw hfm hfe hlm hcn hcm hne hfn1 hfw; simp_all
                               exact mtN true ⟨hbw,by rw[hfw,Bool.or_true],hS⟩)
                      · intro g80;have g80:=of_decide_eq_false g80;refine Og (dj:=80) rfl rfl rfl ?_;refine Ow ?_;refine Oa ?_;refine Oc [4,6,7,9,10,38,56,57,58,59,60,61,62,68,69,71,75,76,81,82] ?_;refine OO ?_;refine OC ?_;refine Ot ?_;have hfn1:=farW_nat (w:=w) hcm;have hbn1:=badW_nat hcm hne
                        first
                          | (exfalso; omega)
                          | (have hfw:farW c w=false:=by
                               rw[hfn1]; clear hS hw hfr hnm hre hd1 hd2 hnw hfm hfe hlm hcn hcm hne hbn1; simp_all
                             have hbw:badW c w=0:=by
                               rw[hbn1]; clear hS hw hfr hnm hre hd1 hd2 hnw hfm hfe hlm hcn hcm hne hfn1 hfw; simp_all
                             exact mtN eb ⟨hbw,by rw[hfw,Bool.or_false],hS⟩)
                          | (have hfw:farW c w=true:=by
                               rw[hfn1]; clear hS hw hfr hnm hre hd1 hd2 hnw hfm hfe hlm hcn hcm hne hbn1; simp_all
                             have hbw:badW c w=0:=by
                               rw[hbn1]; clear hS hw hfr hnm hre hd1 hd2 hnw hfm hfe hlm hcn hcm hne hfn1 hfw; simp_all
                             exact mtN true ⟨hbw,by rw[hfw,Bool.or_true],hS⟩)
              ·
                rintro y h3 ⟨hbad,hyy,hS⟩;refine Oe ?_;refine Ob ?_;refine O1 ?_;refine Oc [4,6,7,10,38,85] ?_;refine OU ?_ ?_
                · intro c85;refine Oy rfl ?_;refine Ob ?_;refine Oa ?_;refine Oj ?_;refine Ot ?_;have hc9:c≠119:=fun e=>c85 (by rw[e]; rfl)
                  have hnum:isNum w 3=true:=by
                    rw[badW,if_neg hc9] at hbad;by_cases q:isNum w 3=true
                    · exact q
                    · rw[if_neg q] at hbad; cases hbad
                  rw[wordsE,if_pos hbad] at hw;rw[farE,←Bool.or_assoc,←hyy] at hfr;rw[numW,if_neg hc9] at hnm;exact Kh (p+1,y,numV w) (by repeat (first|exact Sub.nil _|refine Sub.cons Look.eq ?_|refine Sub.cons (Eq.trans Look.eq (congrArg (AV.int _) (by first|omega|(dsimp only; omega)))) ?_|refine Sub.cons (Eq.trans Look.eq (by rw[if_pos hnum])) ?_)) ⟨hlt,hw,hfr,hnm,hS⟩ (by dsimp only; omega)
                · intro c85;refine OC ?_;refine Ot ?_;have hc9:c=119:=hcn.1.1 (by omega);rw[wordsE,if_pos hbad] at hw;rw[farE,←Bool.or_assoc,←hyy] at hfr;rw[numW,if_pos hc9] at hnm;exact lpN (p+1,y,n) ⟨hlt,hw,hfr,hnm,hS⟩ (by dsimp only; omega)
            · intro np;refine Om ?_;refine Oj ?_;refine Oh ?_;refine Oo ?_;refine OO ?_;refine O5 ?_;refine OW ?_;refine O4 ?_;refine OX ?_;refine Oh ?_;refine Oz [4,6,7] ?_;refine Oo ?_;refine Oe ?_;refine Ob ?_;refine O1 ?_;refine Oc [4,6,7,88] ?_;refine OU ?_ ?_
              · intro c88;refine Oe ?_;refine Ob ?_;refine Oa ?_;refine Oa ?_;refine Oc [2,3] ?_;refine Ok ?_;refine Oq ?_;refine OI ?_;have hpe:p=f.length:=by rw[wd_size] at np; omega
                subst hpe;rw[List.drop_length] at hw hfr hnm;simp only[wordsE,farE,Bool.or_false,numW] at hw hfr hnm;have hq:readE l=1:=by
                  cases eb
                  · exact absurd rfl c88
                  · rw[hre,hw,hfr]; simp
                rw[show(if eb=true then (1:Int) else 0)=1 by cases eb; exact absurd rfl c88; rfl];exact⟨⟨_,rfl,by rw[hq],fun h0=>by rw[hq] at h0; cases h0⟩,hS.keeps⟩
              · intro c88;refine OD [4,6] ?_;refine Oe ?_;refine Ob ?_;refine Ob ?_;refine On rfl (told_c (hS.rd 1 rfl) (by rw[hfe]; exact hfl) (by rw[hfe]; exact hfn)) ?_;rintro _ _ ⟨rfl,rfl⟩;refine Oa ?_;refine Oa ?_;refine Oc [2,3] ?_;refine Ok ?_;refine OI ?_;have hpe:p=f.length:=by rw[wd_size] at np; omega
                subst hpe;rw[List.drop_length] at hw hfr hnm;simp only[wordsE,farE,Bool.or_false,numW] at hw hfr hnm;have hq:readE l=0:=by
                  cases eb
                  · rw[hre,hw,hfr]; simp
                  · rw[if_pos rfl] at c88; cases c88
                refine⟨⟨_,tellV_one (tellOf (splitC 32 l) n),by rw[hq],fun _=>?_⟩,hS.keeps⟩;unfold readT;simp only[hfe,hnm]
    · intro g19;have g19:=of_decide_eq_true g19;refine Og (dj:=19) rfl rfl rfl ?_;refine OE ?_;refine Oc [4,22] ?_;refine OV ?_;refine Oe ?_;refine Oa ?_;refine Oa ?_;refine Oc [2,3] ?_;refine Ok ?_;refine Oq ?_;refine OI ?_;have hq:readE l=9:=by
        unfold readE; simp only[]; rw[if_neg (by omega),if_pos (.inl g19)]
      exact⟨⟨_,rfl,by rw[hq],fun h0=>by rw[hq] at h0; cases h0⟩,hS.keeps⟩
end Go.Am
