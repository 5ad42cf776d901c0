/-
  Layer 14: the reference reads a file.
  Conditions: none.
-/
import Derived.Test.YtgnogfjajnnaoaaGreatDoorOt
import Derived.Test.YtgnogfjajnnaoaaGreatDoorCab
open List renaming getD_eq_getElem?_getD → fA, isPrefixOf_iff_prefix → fE, isSuffixOf_iff_suffix → fI, prefix_iff_eq_take → fO, length_append → fU
namespace Go.Am
theorem ZB {h h':AHeap} {f:Str} {e:Int} (k:Keeps h h') (E:Q4 f=e) (he:e≠0):(K7 f≠0∧AV.tup [.nilp,.int .i64 e] = .tup [.nilp,.int .i64 (K7 f)]∧Keeps h h')∨(K7 f=0∧∃ b,AV.tup [.nilp,.int .i64 e] = .tup [b,.int .i64 0]∧RB h h' b (K5 f) []):=by
 have:K7 f=e:=by rw[K7,E,if_neg he]
 rw[this];exact .inl ⟨he,rfl,k⟩
theorem UR {p l:Str} (h:l.take p.length=p):p.isPrefixOf l=true:=by
 rw[fE,fO]; exact h.symm
theorem Ur {p l:Str} (h:¬ l.take p.length=p):p.isPrefixOf l=false:=by
 rw[←Bool.not_eq_true,fE,fO]; exact fun e=>h e.symm
theorem suf_yes {f:Str} (h0 : 0<f.length) (h:f.getD (f.length - 1) 0=10) : [10].isSuffixOf f=true:=by
 rw[fI];refine⟨f.dropLast,?_⟩;have hne:f≠[]:=by intro e; rw[e] at h0; cases h0
 have e:f.getLast hne=10:=by
  rw[List.getLast_eq_getElem,←h,fA,List.getElem?_eq_getElem aB]; rfl
 rw[←e];exact List.dropLast_concat_getLast hne
theorem suf_no {f:Str} (h:f.length=0∨¬ f.getD (f.length - 1) 0=10) : [10].isSuffixOf f=false:=by
 rw[←Bool.not_eq_true,fI];rintro⟨t,rfl⟩;rcases h with h|h
 ·simp at h
 ·apply h;rw[fU,List.length_singleton,Nat.add_sub_cancel,fA,List.getElem?_concat_length]; rfl
theorem readR_c {h:AHeap} {f:Str} (hf:f.length≤1000000) (hV:Vs h):ACalls Go.Proofs.Tryz.prog 49 [.str (wd f)] h (fun q h'=>(K7 f≠0∧q = .tup [.nilp,.int .i64 (K7 f)]∧Keeps h h')∨(K7 f=0∧∃ b,q = .tup [b,.int .i64 0]∧RB h h' b (K5 f) [])):=by
  refine OR 148 [.tmp 2,.tmp 3] Go.Proofs.Tryz.func49 rfl aD rfl rfl (Nat.le_of_ble_eq_true rfl) ?_;have hS:=St.refl h;show KA _ 148 _ _ [(0,.str (wd f))] _;refine On ?_;refine Oo ?_;refine Oo ?_;refine Ol [0] ?_;refine b3 ?_;refine Oh ?_;refine KX ?_;refine QR ?_;refine Ol [0,18] ?_;refine Ok ?_ ?_
  · intro c18;have c18 : 18000<f.length:=by omega
    refine dI ?_;exact ZB hS.keeps (by rw[Q4,if_pos c18]) aD
  · intro c18;have c18:¬ 18000<f.length:=by omega
    refine Ot [0] ?_;refine b3 ?_;refine Oh ?_;refine KX ?_;refine ZL ?_;refine Oh ?_;refine Ox (dj:=22) rfl rfl false true rfl ?_ ?_
    · intro g22;have g22:=of_decide_eq_false g22;refine Oh ?_;refine Og (dj:=22) rfl rfl ?_;refine Oh ?_;refine Og (dj:=22) rfl rfl ?_;refine KX ?_;refine Og (dj:=22) rfl rfl ?_;refine QZ aC aC ?_
      try rw[show(f.length:Int) - 1=((f.length - 1:Nat):Int) from by omega]
      refine Og (dj:=22) rfl rfl ?_;refine QJ (j:=_) rfl aA ?_;refine Og (dj:=22) rfl rfl ?_;refine Zl ?_;refine OY ?_;refine Ol [0,29] ?_;refine O1 ?_ ?_
      · intro c29;refine dI ?_;exact ZB hS.keeps (by rw[Q4,if_neg c18,if_pos (suf_no (.inr (fun e=>c29 (by rw[e]; rfl))))]) aD
      · intro c29;refine Ot [0] ?_;refine On ?_;refine Oo ?_;refine cM ?_;refine On ?_;refine Oo ?_;refine Oo ?_;refine cM ?_;refine b3 ?_;refine Oo ?_;refine cM ?_;refine Oz ?_;refine O7 (X:=Nat × AV) (fun x=>[(0,.str (wd f)),(4,x.2),(5,.int .i64 (((nlS f x.1).2.1:Nat):Int)),(6,.int .i64 (((nlS f x.1).2.2:Nat):Int)),(7,.int .i64 (x.1:Int))]) (fun x h'=>x.1≤f.length∧St h h' [⟨x.2,1,wcs (nlS f x.1).1,true⟩]) (fun x=>f.length - x.1) (0,.nils) ?_ ?_
        · exact⟨Nat.zero_le _,St.addNil 1 true hS⟩
        rintro⟨i,vo⟩ h5 ⟨hi,hS⟩;dsimp only at hi hS⊢;refine b3 ?_;refine cY ?_;refine KX ?_;refine Qo ?_;refine Ol [0,4,5,6,7,33] ?_;refine Ok ?_ ?_
        · intro c33;have hlt:i<f.length:=by omega
          have I:=nl_inv f i hi;have i1:=I.le;have i2:=I.lb;have i3:=I.cnt;refine Ot [0,4,5,6,7] ?_;refine dJ ?_;refine cY ?_;refine QJ (j:=i) rfl aA ?_;refine ZL ?_;refine Ol [0,4,5,6,7,39] ?_;refine Ok ?_ ?_
          · intro c39;refine On ?_;refine cY ?_;refine cY ?_;refine KOps.wBoth (i:=(nlS f i).2.1) (j:=i) rfl rfl aB aB ?_;refine cJ ?_;intro v45 h' hS;refine Qb hS (fun _=>rfl) (i:=0) rfl aA ?_;intro r46 h' hr46 hS;refine Oo ?_;refine Ol [0,4,5,7] ?_;refine Kl rfl ?_;refine cY ?_;refine KP aC aC ?_;refine Oo ?_;refine Oo ?_;refine cE ?_;refine Ow [0,4,5,6,7] ?_;refine Kl rfl ?_;refine Oh ?_;refine ce ?_;have q:f.getD i 0=10:=UInt8.toNat_inj.1 (by show _=10; omega);have e:=W6 q;exact KI (i+1,r46) (by repeat (first|exact Sub.nil _|refine Sub.cons Look.eq ?_|refine Sub.cons (Eq.trans Look.eq (congrArg (AV.int _) aJ)) ?_|refine Sub.cons (Eq.trans Look.eq (by dsimp only; rw[e]; try rfl)) ?_)) ⟨by dsimp only; omega,by dsimp only; rw[e]; exact hS⟩ aK
          · intro c39;refine bx ?_;refine Ow [0,4,5,6,7] ?_;refine Kl rfl ?_;refine Oh ?_;refine ce ?_;have e:=nlS_no (fun q=>c39 (by rw[q]; rfl));exact KI (i+1,vo) (by repeat (first|exact Sub.nil _|refine Sub.cons Look.eq ?_|refine Sub.cons (Eq.trans Look.eq (congrArg (AV.int _) aJ)) ?_|refine Sub.cons (Eq.trans Look.eq (by dsimp only; rw[e])) ?_)) ⟨by dsimp only; omega,by dsimp only; rw[e]; exact hS⟩ aK
        · intro c33;have hie:i=f.length:=by omega
          subst hie;have q10:f.getD (f.length - 1) 0=10:=UInt8.toNat_inj.1 (by show _=10; omega);obtain⟨hL1,hL2⟩:=nl_end (f:=f) aB q10;rw[hL1] at hS;have hsf : [10].isSuffixOf f=true:=suf_yes aB q10;have hnL:=Ru f;refine bj ?_;refine Ow [0,4,6] ?_;refine b3 ?_;refine Oh ?_;refine eG ?_;refine Qo ?_;refine Oh ?_;refine Ox (dj:=53) rfl rfl false true rfl ?_ ?_
          · intro g53;have g53:=of_decide_eq_false g53;refine Oh ?_;refine Og (dj:=53) rfl rfl ?_;refine Oq (hS.rd 0 rfl) (j:=0) rfl aA ?_;intro p55 hp55;refine Og (dj:=53) rfl rfl ?_;refine OS hp55 (hS.rd 0 rfl) aA ?_;refine Og (dj:=53) rfl rfl ?_;refine KOps.wNeq ?_;refine OY ?_;refine Ol [0,4,6,58] ?_;refine O1 ?_ ?_
            · intro c58;refine dI ?_;exact ZB hS.keeps (Uo c18 hsf (.inr c58)) aD
            · intro c58;have hk0:(O4 f).getD 0 []=kB:=c58;refine Ot [0,4,6] ?_;refine b3 ?_;refine Oo ?_;refine cM ?_;refine Oz ?_;refine O7 (X:=Nat) (fun i=>[(0,.str (wd f)),(4,vo),(6,.int .i64 (((nlS f f.length).2.2:Nat):Int)),(8,.int .i64 ((i:Int)+1))]) (fun i h'=>i+2≤(O4 f).length∧Yh (O4 f) i=true∧St h h' [⟨vo,1,wcs (QA (O4 f) i),true⟩]) (fun i=>(O4 f).length - i) 0 ?_ ?_
              · exact⟨by omega,rfl,hS⟩
              rintro i h10 ⟨hi,hg,hS⟩;have hlen2:=YN (O4 f) i;refine b3 ?_;refine Oh ?_;refine KP aC aC ?_;refine Oh ?_;refine eG ?_;refine Qo ?_;refine Ol [0,4,6,8,63] ?_;refine Ok ?_ ?_
              · intro c63;have hge:=Jm (O4 f) i (i+1) aB;have hlj:((QA (O4 f) i).getD (i+1) []).length≤18000:=by
                  rw[hge];have:=X4 (f:=f) (w:=(O4 f).getD (i+1) []) (getD_mem aB);omega
                have hil:=Lib.itoa_length_le ((i:Int)+1) aB aB;have hnP:(Lib.itoa ((i:Int)+1) ++ [46,32]).length=(Lib.itoa ((i:Int)+1)).length+2:=by rw[fU]; rfl
                refine Ot [0,4,6,8] ?_;refine dJ ?_;refine Oh ?_;refine Oj rfl (Wn (hV.ext hS.keeps).pw aB aB) ?_;rintro _ _ ⟨rfl,rfl⟩;refine ZC aA ?_;refine Oo ?_;refine Ol [0,4,6,8,9] ?_;refine b3 ?_;refine cY ?_;refine eD ?_;intro p71 hp71;refine OS hp71 (hS.rd 0 rfl) aA ?_;refine KX ?_;refine Oh ?_;refine KX ?_;refine Qo ?_;refine Oh ?_;refine Ox (dj:=77) rfl rfl false true rfl ?_ ?_
                · intro g77;have g77:=of_decide_eq_false g77;refine Oh ?_;refine Og (dj:=77) rfl rfl ?_;refine Oh ?_;refine Og (dj:=77) rfl rfl ?_;refine eD ?_;intro p80 hp80;refine Og (dj:=77) rfl rfl ?_;refine OS hp80 (hS.rd 0 rfl) aA ?_;refine Og (dj:=77) rfl rfl ?_;refine Oh ?_;refine Og (dj:=77) rfl rfl ?_;refine KX ?_;refine Og (dj:=77) rfl rfl ?_;refine KOps.wHi (j:=_) rfl aA ?_;refine Og (dj:=77) rfl rfl ?_;refine Oh ?_;refine Og (dj:=77) rfl rfl ?_;refine KOps.wNeq ?_;refine OY ?_;refine Ol [0,4,6,8,9,78,79,80,81,82,83,84,85,86,87] ?_;refine O1 ?_ ?_
                  · intro c87;refine bw ?_;refine Kk ?_;refine cK ?_;refine K4 ?_;exact ZB hS.keeps (WQ (i:=i) c18 hsf aB (by rw[←hge]; exact Ur c87)) aD
                  · intro c87;refine Ot [0,4,6,8,9,78,79,80,81,82,83,84,85,86] ?_;refine Kl rfl ?_;refine cY ?_;refine cY ?_;refine eD ?_;intro p92 hp92;refine OS hp92 (hS.rd 0 rfl) aA ?_;refine Oh ?_;refine KX ?_;refine KOps.wLo (j:=_) rfl aA ?_;refine eD ?_;intro p97 hp97;refine KOps.storeW hS rfl (i:=0) rfl hp97 aA ?_;intro h' hS;refine cE ?_;refine Ow [0,4,6,8,78,79,80,81,82,83,84,85,86] ?_;refine Kl rfl ?_;refine Oh ?_;refine ce ?_;refine lpN (i+1) ⟨by omega,?_,?_⟩ aB
                    · rw[Yh,hg,←hge,UR (p:=XP (i+1)) c87]; rfl
                    · have e:(QA (O4 f) i).set (i+1) (((QA (O4 f) i).getD (i+1) []).drop (XP (i+1)).length)=QA (O4 f) (i+1):=by rw[hge]; rfl
                      rw[←e]; exact hS
                · intro g77;have g77:=of_decide_eq_true g77;refine cI ?_;refine cI ?_;refine Kq ?_;refine Ol [0,4,6,8,9,78,79,80,81,82,83,84,85,86,87] ?_;refine Km ?_;refine bw ?_;refine Kk ?_;refine cK ?_;refine K4 ?_;have hnQ:XP (i+1)=Lib.itoa ((i:Int)+1) ++ [46,32]:=rfl;exact ZB hS.keeps (WQ (i:=i) c18 hsf aB (by rw[←hge]; exact Ur (fun e=>by have e3:=List.length_take_le' (XP (i+1)).length ((QA (O4 f) i).getD (i+1) []); rw[e] at e3; exact absurd (Int.ofNat_lt.1 g77) (Nat.not_lt.2 e3)))) aD
              · intro c63;have hie:i=(O4 f).length - 2:=by omega
                have hE:Q4 f=endE f (QP (O4 f)):=fE_end c18 hsf aB hk0 (hie ▸ hg);subst hie;have hlast:(QA (O4 f) ((O4 f).length - 2)).getD ((O4 f).length - 1) []=QP (O4 f):=Jm _ _ _ aB;have hem:(QP (O4 f)).length≤f.length - 1:=X4 (getD_mem aB);refine bj ?_;refine Ow [0,4,6] ?_;refine On ?_;refine cY ?_;refine eG ?_;refine QZ aC aC ?_;rw[show(((QA (O4 f) ((O4 f).length - 2)).length:Nat):Int) - 1=(((O4 f).length - 1:Nat):Int) from by omega];refine eD ?_;intro p102 hp102;refine OS hp102 (hS.rd 0 rfl) aA ?_;rw[hlast];refine Oo ?_;refine Ol [0,4,6,10] ?_;refine b3 ?_;refine Oh ?_;refine KX ?_;refine Qo ?_;refine Oh ?_;refine Ox (dj:=107) rfl rfl false true rfl ?_ ?_
                · intro g107;have g107:=of_decide_eq_false g107;refine Oh ?_;refine Og (dj:=107) rfl rfl ?_;refine KOps.wHi (j:=_) rfl aA ?_;refine Og (dj:=107) rfl rfl ?_;refine KOps.wNeq ?_;refine OY ?_;refine Ol [0,4,6,10,111] ?_;refine O1 ?_ ?_
                  · intro c111;refine dI ?_;exact ZB hS.keeps (hE.trans (if_pos (.inl (Ur (p:=kEnd) c111)))) aD
                  · intro c111;refine Ot [0,4,6,10] ?_;refine dc ?_;refine KOps.wLo (j:=_) rfl aA ?_;refine Oj rfl (Tk (m:=4) aD bF) ?_;rintro _ _ ⟨rfl,rfl⟩;refine cZ ?_;refine Ol [0,4,6,11,12] ?_;refine b3 ?_;refine Oh ?_;refine Zm ?_;refine Oh ?_;refine Ox (dj:=120) rfl rfl false true rfl ?_ ?_
                    · intro g120;refine Oh ?_;refine Og (dj:=120) rfl rfl ?_;refine QR ?_;refine OY ?_;refine Ol [0,4,6,11,123] ?_;refine Ok ?_ ?_
                      · intro c123;have hnu:KT ((QP (O4 f)).drop 4) 4=true:=by simpa using g120
                        rw[if_pos hnu] at c123;refine dI ?_;exact ZB hS.keeps (hE.trans (if_pos (.inr (.inr c123)))) aD
                      · intro c123;have hnu:KT ((QP (O4 f)).drop 4) 4=true:=by simpa using g120
                        rw[if_pos hnu] at c123;refine Ot [0,4,6,11] ?_;refine b3 ?_;refine cY ?_;refine Oh ?_;refine KOps.wHi (j:=(nlS f f.length).2.2) rfl aA ?_;refine Oj rfl (WE bE) ?_;rintro _ _ ⟨rfl,rfl⟩;refine Zl ?_;refine Ol [4,129] ?_;refine O1 ?_ ?_
                        · intro c129;rw[if_pos hnu,hL2] at c129;refine dI ?_;exact ZB hS.keeps (hE.trans ((Jo (UR (p:=kEnd) c111) hnu c123).trans (if_pos c129))) aD
                        · intro c129;rw[if_pos hnu,hL2] at c129;have hE0:Q4 f=0:=hE.trans ((Jo (UR (p:=kEnd) c111) hnu c123).trans (if_neg (fun h=>h c129)));refine Ot [4] ?_;refine On ?_;refine Oj rfl (new14_c) ?_;rintro o h30 hB;obtain⟨wl0,vw0,full0,ok0,hSB⟩:=hB;have hp4:WRow _ vo (QA (O4 f) ((O4 f).length - 2)):=hS.rd 0 rfl;have hbl:=Rt f;refine Oo ?_;refine Ol [4,13] ?_;refine b3 ?_;refine Oo ?_;refine cM ?_;refine Oz ?_;refine O7 (X:=Nat) (fun i=>[(4,vo),(13,o),(14,.int .i64 ((i:Int)+1))]) (fun i h'=>i≤(K5 f).length∧(Q3 [] ((K5 f).take i)).1=0∧RB h10 h' o ((K5 f).take i) []) (fun i=>(K5 f).length - i) 0 ?_ ?_
                          · exact⟨Nat.zero_le _,rfl,wl0,vw0,full0,ok0,hSB⟩
                          rintro i h24 ⟨hi,hd,hB⟩;obtain⟨wl,vw,full,ok,hS5⟩:=hB;have hvk:=hp4.ext hS5.keeps;refine b3 ?_;refine Oh ?_;refine KP aC aC ?_;refine Oh ?_;refine Ka hvk ?_;refine Qo ?_;refine Ol [4,13,14,135] ?_;refine Ok ?_ ?_
                          · intro c135;have hlt:i<(K5 f).length:=by omega
                            have hbe:(QA (O4 f) ((O4 f).length - 2)).getD (i+1) []=(K5 f).getD i []:=by
                              unfold K5;rw[fA,fA,List.getElem?_take_of_lt aB,List.getElem?_drop,Nat.add_comm]
                            have hxl:((K5 f).getD i []).length≤1000000:=by
                              rw[Rs f aB,U9,List.length_drop];have:=X4 (f:=f) (w:=(O4 f).getD (i+1) []) (getD_mem aB);omega
                            have hDn:Done ((K5 f).take i):=by
                              have:=doAll_done ((K5 f).take i) [] .nil hd;rwa [List.nil_append] at this
                            refine Ot [4,13,14] ?_;refine dJ ?_;refine cY ?_;refine Oh ?_;refine Oq hvk (j:=_) rfl aA ?_;intro p141 hp141;refine OS hp141 hvk aA ?_;rw[hbe];refine Oj rfl (do14_c ok hS5 hDn hxl) ?_;rintro _ h34 ⟨rfl,hB⟩;refine Oo ?_;refine Ol [4,13,14,15] ?_;refine dc ?_;refine Zl ?_;refine Ol [4,13,14,15,145] ?_;refine O1 ?_ ?_
                            · intro c145;refine d9 ?_;refine cK ?_;refine K4 ?_;have hr:K7 f=Kf ((K5 f).take i) ((K5 f).getD i []):=by rw[K7,if_pos hE0]; exact Wf hd hlt c145
                              obtain⟨_,_,_,_,hS6⟩:=hB;exact .inl ⟨by rw[hr]; exact c145,by rw[hr],hS.keeps.trans hS6.keeps⟩
                            · intro c145;refine bx ?_;refine Ow [4,13,14] ?_;refine Kl rfl ?_;refine Oh ?_;refine ce ?_;obtain⟨e1,e2⟩:=We hd hlt c145;rw[e2] at hB;exact lpN (i+1) ⟨by omega,e1,hB⟩ aB
                          · intro c135;refine bj ?_;refine Ow [13] ?_;refine d9 ?_;refine K4 ?_;have hie:i=(K5 f).length:=by omega
                            subst hie;rw[List.take_length] at ok hd;exact .inr ⟨by rw[K7,if_pos hE0]; exact hd,o,rfl,wl,vw,full,ok,St.drop (St.perm List.perm_append_comm (St.trans hS hS5))⟩
                    · intro g120;refine OX (dj:=120) rfl rfl rfl ?_;refine Kq ?_;refine Ol [0,4,6,11,123] ?_;refine Km ?_;refine dI ?_;exact ZB hS.keeps (hE.trans (if_pos (.inr (.inl (by simpa using g120))))) aD
                · intro g107;have g107:=of_decide_eq_true g107;refine OX (dj:=107) rfl rfl rfl ?_;refine OX (dj:=107) rfl rfl rfl ?_;refine Kq ?_;refine Ol [0,4,6,10,111] ?_;refine Km ?_;refine dI ?_;exact ZB hS.keeps (hE.trans (if_pos (.inl (Ur (p:=kEnd) (fun e=>by have e2:=congrArg List.length e; rw[List.length_take] at e2; have e3:kEnd.length=4:=rfl; omega))))) aD
          · intro g53;have g53:=of_decide_eq_true g53;refine OX (dj:=53) rfl rfl rfl ?_;refine OX (dj:=53) rfl rfl rfl ?_;refine OX (dj:=53) rfl rfl rfl ?_;refine Kq ?_;refine Ol [0,4,6,58] ?_;refine Km ?_;refine dI ?_;exact ZB hS.keeps (Uo c18 hsf (.inl aB)) aD
    · intro g22;have g22:=of_decide_eq_true g22;refine OX (dj:=22) rfl rfl rfl ?_;refine OX (dj:=22) rfl rfl rfl ?_;refine OX (dj:=22) rfl rfl rfl ?_
      try rw[show(f.length:Int) - 1=((f.length - 1:Nat):Int) from by omega]
      refine OX (dj:=22) rfl rfl rfl ?_;refine OX (dj:=22) rfl rfl rfl ?_;refine Kq ?_;refine Ol [0,29] ?_;refine Km ?_;refine dI ?_;exact ZB hS.keeps (by rw[Q4,if_neg c18,if_pos (suf_no (.inl aB))]) aD
end Go.Am
namespace Go.Am
section
variable {P:Program} {n:Nat} {ops:Array Oper} {ex:List Nat} {Q:KF→AHeap→Prop} {k:Nat} {os:List Oper} {K:KF} {h:AHeap} {d:Nat} {ty:TypeId} {pos:String} {after:Array Edge}
theorem KOps.wEqlV {t t':TypeId} {x y:Operand} {a b:Str} [hx:EvK h.globs n K x (.str (wd a))] [hy:EvK h.globs n K y (.str (wd b))] (he:a=b) (hk:KOps P n ops ex Q (k+1) os ((d,.bool true)::K) h):KOps P n ops ex Q k (⟨some d,.binOp .eql t x y t',ty,pos,after,none⟩::os) K h:=by
 refine KOps.wEql ?_;rw[decide_eq_true he]; exact hk
end
end Go.Am
namespace Go.Am
def FB (h0 h:AHeap) (f:Str) (v:AV):Prop:=(K7 f≠0∧v = .nilp∧Keeps h0 h)∨(K7 f=0∧Bk h0 h v (K5 f) [])
def FR (h0 h:AHeap) (f:Str) (v:AV):Prop:=(K7 f≠0∧v = .nilp∧Keeps h0 h)∨(K7 f=0∧RB h0 h v (K5 f) [])
theorem TO {h:AHeap} {f:Str} (hf:f.length≤1000000) (hV:Vs h):ACalls Go.Proofs.Tryz.prog 48 [.str (wd f)] h (fun q h'=>∃ v,q = .tup [v,.int .i64 (K7 f)]∧FB h h' f v):=by
 refine(readF_c hf hV).mono ?_;rintro q h' (⟨h1,h2,h3⟩|⟨h1,b,h2,h3⟩)
 ·exact⟨_,h2,.inl ⟨h1,rfl,h3⟩⟩
 ·exact⟨b,by rw[h1]; exact h2,.inr ⟨h1,h3⟩⟩
theorem TP {h:AHeap} {f:Str} (hf:f.length≤1000000) (hV:Vs h):ACalls Go.Proofs.Tryz.prog 49 [.str (wd f)] h (fun q h'=>∃ v,q = .tup [v,.int .i64 (K7 f)]∧FR h h' f v):=by
 refine(readR_c hf hV).mono ?_;rintro q h' (⟨h1,h2,h3⟩|⟨h1,b,h2,h3⟩)
 ·exact⟨_,h2,.inl ⟨h1,rfl,h3⟩⟩
 ·exact⟨b,by rw[h1]; exact h2,.inr ⟨h1,h3⟩⟩
theorem FB.b1 {h0 h:AHeap} {f:Str} {v:AV} (x:FB h0 h f v) (q:decide (K7 f≠0)=true):v = .nilp:=by
 have q:=of_decide_eq_true q;rcases x with ⟨_,e,_⟩|⟨e,_⟩
 ·exact e
 ·exact absurd e q
theorem FB.b2 {h0 h:AHeap} {f:Str} {v:AV} (x:FB h0 h f v) (q:decide (K7 f≠0)=false):AddrOf v v 0 0:=by
 have q:=of_decide_eq_false q;rcases x with ⟨n,_,_⟩|⟨_,vl,A,hb,hS⟩
 ·exact absurd n q
 ·exact(St.rbk hS hb).ad
theorem FB.keeps {h0 h:AHeap} {f:Str} {v:AV} (x:FB h0 h f v):Keeps h0 h:=by
 rcases x with ⟨_,_,k⟩|⟨_,_,_,_,hS⟩
 ·exact k
 ·exact hS.keeps
theorem FR.keeps {h0 h:AHeap} {f:Str} {v:AV} (x:FR h0 h f v):Keeps h0 h:=by
 rcases x with ⟨_,_,k⟩|⟨_,_,_,_,_,hS⟩
 ·exact k
 ·exact hS.keeps
set_option synthInstance.maxSize 2000 in
set_option synthInstance.maxHeartbeats 200000 in
theorem masterFiles_c {h:AHeap} {f:Str} (hV:Vs h):ACalls Go.Proofs.Tryz.prog 9 [.str (wd f)] h (fun q h'=>q = .bool true∧Keeps h h'):=by
 refine OR 60 [.tmp 2] Go.Proofs.Tryz.func9 rfl aD rfl rfl (Nat.le_of_ble_eq_true rfl) ?_;have hS:=St.refl h;show KA _ 60 _ _ [(0,.str (wd f))] _;refine On ?_;refine Oo ?_;refine Ol [0] ?_;refine b3 ?_;refine Oh ?_;refine KX ?_;refine QR ?_;refine Oh ?_;refine Ox (dj:=10) rfl rfl true false rfl ?_ ?_
 ·intro g10;have g10:=of_decide_eq_true g10;refine Oh ?_;refine Og (dj:=10) rfl rfl ?_;refine KX ?_;refine Og (dj:=10) rfl rfl ?_;refine KOps.leq ?_;refine Kq ?_;refine Oh ?_;refine Ox (dj:=15) rfl rfl false true rfl ?_ ?_
  ·intro g15;have g15:=of_decide_eq_false g15;refine Oh ?_;refine Og (dj:=15) rfl rfl ?_;refine KX ?_;refine Og (dj:=15) rfl rfl ?_;refine QR ?_;refine OY ?_;refine Ol [0,19] ?_;refine Ok ?_ ?_
   ·intro c19;refine On ?_;refine Oj rfl (YB hV) ?_;rintro _ hw ⟨rfl,hK⟩;refine dh ?_;refine Kk ?_;refine fnQ.ret1 ?_
    first|exact⟨rfl,hK⟩|exact⟨rfl,hS.keeps.trans hK⟩|exact⟨rfl,(k28.trans hS.keeps).trans hK⟩
   ·intro c19;refine Ot [0] ?_;refine dc ?_;refine Oj rfl (TO aB hV) ?_;rintro _ h23 ⟨b,rfl,hFB⟩;replace hS:St _ _ []:=St.on hS hFB.keeps;refine cZ ?_;refine Ol [0,3,4] ?_;refine dc ?_;refine Oj rfl (TP aB (hV.ext hS.keeps)) ?_;rintro _ h28 ⟨o,rfl,hFR⟩;replace hS:St _ _ []:=St.on hS hFR.keeps;have hk2:=hFR.keeps;refine cZ ?_;refine Ol [3,4,5,6] ?_;refine b3 ?_;refine cY ?_;refine KJ rfl ?_;refine Oh ?_;refine dX ?_;refine KOps.neqB aF ?_;rw[show(!(decide (K7 f≠0) == !decide (K7 f=0)))=false from by by_cases q:K7 f=0 <;> simp[q]];refine OY ?_;refine Ol [3,5,6,40] ?_;refine OW ?_;refine Ot [3,5,6] ?_;refine dc ?_;refine Zl ?_;refine Oh ?_;refine Ox (dj:=43) rfl rfl false true rfl ?_ ?_
    ·intro g43;have g43:=Qf g43;refine Oh ?_
     try (have hB:=hFB.resolve_left (fun q=>q.1 bC); have hR:=hFR.resolve_left (fun q=>q.1 bC); obtain⟨_,vl,A,hb,hSB⟩:=hB; obtain⟨_,wl,vw,full,ok,hSR⟩:=hR; have r:=(St.rbk hSB hb).ext hk2; have r2:=St.rrb hSR ok; have k28:=hS.keeps; clear hS; have hS:=St.refl h28)
     refine dx ?_;refine Oj rfl (Tz (r.ext hS.keeps)) ?_;rintro v45 h45 hS45;replace hS:St _ _ (_::_):=St.trans hS hS45;refine dx ?_;refine Oh ?_;refine dx ?_;refine Oj rfl (Ry (r2.ext hS.keeps) bR) ?_;rintro v47 h47 hS47;replace hS:St _ _ (_::_):=St.trans hS hS47;refine dx ?_;refine Oj rfl (Vg (hS.rd 1 rfl) (hS.rd 0 rfl) bR) ?_;rintro _ _ ⟨rfl,rfl⟩;rw[decide_eq_true (show K5 f=K5 f from rfl)];refine dx ?_;refine Oh ?_;refine d6 ?_;refine Oj rfl (WS (r.ext hS.keeps) (hV.ext (k28.trans hS.keeps))) ?_;rintro _ _ ⟨rfl,rfl⟩;refine d6 ?_;refine Oj rfl (Tq (r2.ext hS.keeps) r.done (hV.ext (k28.trans hS.keeps))) ?_;rintro _ _ ⟨rfl,rfl⟩;refine Og (dj:=49) rfl rfl ?_;refine KOps.wEqlV rfl ?_;refine dx ?_;refine Kq ?_;refine OY ?_;refine Oh ?_;refine Og (dj:=57) rfl rfl ?_;refine Oj rfl (YB (hV.ext ax)) ?_;rintro _ hw ⟨rfl,hK⟩;refine Kq ?_;refine dh ?_;refine fnQ.ret1 ?_
     first|exact⟨rfl,hK⟩|exact⟨rfl,hS.keeps.trans hK⟩|exact⟨rfl,(k28.trans hS.keeps).trans hK⟩
    ·intro g43;have g43:=KU g43
     try (have hB:=hFB.resolve_left (fun q=>q.1 bC); have hR:=hFR.resolve_left (fun q=>q.1 bC); obtain⟨_,vl,A,hb,hSB⟩:=hB; obtain⟨_,wl,vw,full,ok,hSR⟩:=hR; have r:=(St.rbk hSB hb).ext hk2; have r2:=St.rrb hSR ok; have k28:=hS.keeps; clear hS; have hS:=St.refl h28)
     refine cN ?_;refine OX (dj:=43) rfl rfl rfl ?_;refine dg ?_;rintro _ hw ⟨rfl,hK⟩;refine Kq ?_;refine dh ?_;refine fnQ.ret1 ?_
     first|exact⟨rfl,hK⟩|exact⟨rfl,hS.keeps.trans hK⟩|exact⟨rfl,(k28.trans hS.keeps).trans hK⟩
  ·intro g15;have g15:=of_decide_eq_true g15;refine OX (dj:=15) rfl rfl rfl ?_;refine OX (dj:=15) rfl rfl rfl ?_;refine Kq ?_;refine Ol [0,19] ?_;refine Km ?_;refine On ?_;refine Oj rfl (YB hV) ?_;rintro _ hw ⟨rfl,hK⟩;refine dh ?_;refine Kk ?_;refine fnQ.ret1 ?_
   first|exact⟨rfl,hK⟩|exact⟨rfl,hS.keeps.trans hK⟩|exact⟨rfl,(k28.trans hS.keeps).trans hK⟩
 ·intro g10;have g10:=of_decide_eq_false g10;refine OX (dj:=10) rfl rfl rfl ?_;refine OX (dj:=10) rfl rfl rfl ?_;refine OY ?_;refine Oh ?_;refine Og (dj:=15) rfl rfl ?_;refine Oh ?_;refine Og (dj:=15) rfl rfl ?_;refine KX ?_;refine Og (dj:=15) rfl rfl ?_;refine QR ?_;refine OY ?_;refine Ol [0,19] ?_;refine Ok ?_ ?_
  ·intro c19;refine On ?_;refine Oj rfl (YB hV) ?_;rintro _ hw ⟨rfl,hK⟩;refine dh ?_;refine Kk ?_;refine fnQ.ret1 ?_
   first|exact⟨rfl,hK⟩|exact⟨rfl,hS.keeps.trans hK⟩|exact⟨rfl,(k28.trans hS.keeps).trans hK⟩
  ·intro c19;refine Ot [0] ?_;refine dc ?_;refine Oj rfl (TO aB hV) ?_;rintro _ h23 ⟨b,rfl,hFB⟩;replace hS:St _ _ []:=St.on hS hFB.keeps;refine cZ ?_;refine Ol [0,3,4] ?_;refine dc ?_;refine Oj rfl (TP aB (hV.ext hS.keeps)) ?_;rintro _ h28 ⟨o,rfl,hFR⟩;replace hS:St _ _ []:=St.on hS hFR.keeps;have hk2:=hFR.keeps;refine cZ ?_;refine Ol [3,4,5,6] ?_;refine b3 ?_;refine cY ?_;refine KJ rfl ?_;refine Oh ?_;refine dX ?_;refine KOps.neqB aF ?_;rw[show(!(decide (K7 f≠0) == !decide (K7 f=0)))=false from by by_cases q:K7 f=0 <;> simp[q]];refine OY ?_;refine Ol [3,5,6,40] ?_;refine OW ?_;refine Ot [3,5,6] ?_;refine dc ?_;refine Zl ?_;refine Oh ?_;refine Ox (dj:=43) rfl rfl false true rfl ?_ ?_
   ·intro g43;have g43:=Qf g43;refine Oh ?_
    try (have hB:=hFB.resolve_left (fun q=>q.1 bC); have hR:=hFR.resolve_left (fun q=>q.1 bC); obtain⟨_,vl,A,hb,hSB⟩:=hB; obtain⟨_,wl,vw,full,ok,hSR⟩:=hR; have r:=(St.rbk hSB hb).ext hk2; have r2:=St.rrb hSR ok; have k28:=hS.keeps; clear hS; have hS:=St.refl h28)
    refine dx ?_;refine Oj rfl (Tz (r.ext hS.keeps)) ?_;rintro v45 h45 hS45;replace hS:St _ _ (_::_):=St.trans hS hS45;refine dx ?_;refine Oh ?_;refine dx ?_;refine Oj rfl (Ry (r2.ext hS.keeps) bR) ?_;rintro v47 h47 hS47;replace hS:St _ _ (_::_):=St.trans hS hS47;refine dx ?_;refine Oj rfl (Vg (hS.rd 1 rfl) (hS.rd 0 rfl) bR) ?_;rintro _ _ ⟨rfl,rfl⟩;rw[decide_eq_true (show K5 f=K5 f from rfl)];refine dx ?_;refine Oh ?_;refine d6 ?_;refine Oj rfl (WS (r.ext hS.keeps) (hV.ext (k28.trans hS.keeps))) ?_;rintro _ _ ⟨rfl,rfl⟩;refine d6 ?_;refine Oj rfl (Tq (r2.ext hS.keeps) r.done (hV.ext (k28.trans hS.keeps))) ?_;rintro _ _ ⟨rfl,rfl⟩;refine Og (dj:=49) rfl rfl ?_;refine KOps.wEqlV rfl ?_;refine dx ?_;refine Kq ?_;refine OY ?_;refine Oh ?_;refine Og (dj:=57) rfl rfl ?_;refine Oj rfl (YB (hV.ext ax)) ?_;rintro _ hw ⟨rfl,hK⟩;refine Kq ?_;refine dh ?_;refine fnQ.ret1 ?_
    first|exact⟨rfl,hK⟩|exact⟨rfl,hS.keeps.trans hK⟩|exact⟨rfl,(k28.trans hS.keeps).trans hK⟩
   ·intro g43;have g43:=KU g43
    try (have hB:=hFB.resolve_left (fun q=>q.1 bC); have hR:=hFR.resolve_left (fun q=>q.1 bC); obtain⟨_,vl,A,hb,hSB⟩:=hB; obtain⟨_,wl,vw,full,ok,hSR⟩:=hR; have r:=(St.rbk hSB hb).ext hk2; have r2:=St.rrb hSR ok; have k28:=hS.keeps; clear hS; have hS:=St.refl h28)
    refine cN ?_;refine OX (dj:=43) rfl rfl rfl ?_;refine dg ?_;rintro _ hw ⟨rfl,hK⟩;refine Kq ?_;refine dh ?_;refine fnQ.ret1 ?_
    first|exact⟨rfl,hK⟩|exact⟨rfl,hS.keeps.trans hK⟩|exact⟨rfl,(k28.trans hS.keeps).trans hK⟩
end Go.Am
