/-
  Layer 14: the law of more knowledge, and less.
  Conditions: none.
-/
import Derived.Test.YtgnogfjajnnaoaaGreatDoorOv
import Derived.Test.YtgnogfjajnnaoaaGreatDoorAnj
namespace Go.Am
theorem pad3_get (W:List Str) (k:Nat):(W ++ [[],[],[]]).getD k []=W.getD k []:=by
 rw[List.getD_eq_getElem?_getD,List.getD_eq_getElem?_getD,List.getElem?_append];split;rfl
 ·rw[List.getElem?_eq_none (l:=W) aA]
  match k - W.length with
  | 0=>rfl
  | 1=>rfl
  | 2=>rfl
  | n+3=>rfl
set_option synthInstance.maxSize 2000 in
set_option synthInstance.maxHeartbeats 200000 in
theorem Rj {h:AHeap} {v1:AV} {y1:List Q4} {q:Q4} (hv1:Rd h v1 4 (flr qc y1)) (hy1:∀ q∈y1,q.Ok) (hq:q.Ok) (hV:Vs h) (hE:Er h):ACalls Go.Proofs.Tryz.prog 13 [v1,.agg [.int .u8 (q.a:Int),.int .u8 (q.b:Int),.int .u8 (q.c:Int),.int .u8 (q.d:Int)]] h (fun q h'=>q = .bool true∧Keeps h h'):=by
 refine OP 186 [.tmp 4] Go.Proofs.Tryz.func13 rfl aD rfl rfl (Nat.le_of_ble_eq_true rfl) ?_;have hS:=St.refl h;show KA _ 186 _ _ [(0,v1),(1,.agg [.int .u8 (q.a:Int),.int .u8 (q.b:Int),.int .u8 (q.c:Int),.int .u8 (q.d:Int)])] _;refine Ow ?_;refine O0 hS rfl ?_;intro p3 h1 hp3 hS;have hb3:Rd h1 p3 0 [.int .u8 (q.a:Int),.int .u8 (q.b:Int),.int .u8 (q.c:Int),.int .u8 (q.d:Int)]:=hS.rd 0 rfl;have hk1:=hS.keeps;clear hS;have hS:=St.refl h1;refine Ov ?_;refine Oo [0,3] ?_;refine cT ?_;refine Om rfl (RA (Rd.ext hk1 hv1) hy1 (hV.ext hk1)) ?_;rintro v24 h24 hS;refine Om rfl (book_c (hS.rd 0 rfl) (Nat.le_trans (Ws _ _) aA) (RB hy1) (hV.ext (hk1.trans hS.keeps))) ?_;rintro b h25 hB;have hB:=Bk.lift hS hB;have hY:YL (YK (ZT false y1)):=by obtain⟨_,_,hb,_⟩:=hB; exact YL.book hb.done
 clear hS;obtain⟨L,hL0⟩:∃ L,YK (ZT false y1)=L:=⟨_,rfl⟩;rw[hL0] at hB hY;obtain⟨vl,A,hb,hS0⟩:=hB;have r:=St.rbk hS0 hb;have hk0:=hS0.keeps;have hb3:=Rd.ext hk0 hb3;have hV2:=hV.ext (hk1.trans hk0);have hE2:=hE.ext (hk1.trans hk0);clear hS0;have hS:=St.refl h25;refine Ov ?_;refine Oo [3,5] ?_;refine Ow ?_;refine KOps.loadAgg (z:=4) hp3 (Rd.ext hS.keeps hb3) aD aW ?_;refine KOps.buildSliceS (cs:=(qc q)) hS rfl rfl rfl aD ?_;intro v27 h' hS;have hv27:Rd _ v27 4 (flr qc [q]):=hS.rd 0 rfl;refine Om rfl (RA (y:=[q]) hv27 (by intro q2 hq2; rw[List.mem_singleton.1 hq2]; exact hq) (hV2.ext hS.keeps)) ?_;rintro v28 h28 hS28;replace hS:St _ _ (_::_):=St.trans hS hS28;refine Ov ?_;refine Oo [5,6] ?_;refine Ow ?_;obtain⟨x,hx⟩:∃ x,Qf false q=x:=⟨_,rfl⟩;have hl7:(ZT false [q]).length=7:=rfl;have hx6:(ZT false [q]).getD 6 []=x:=hx;have hxl:x.length≤1000000:=by have:=Wr false q hq; rw[hx] at this; omega
 refine Oe ?_;refine Oe ?_;refine O6 (hS.rd 0 rfl) ?_;refine ZB aC aC ?_;refine Oq (hS.rd 0 rfl) (j:=6) aC aB ?_;intro p33 hp33;refine OI hp33 (hS.rd 0 rfl) aB ?_;rw[hx6];refine Ov ?_;refine Oo [5,7] ?_;refine cT ?_;refine Om rfl (Re (r.ext hS.keeps)) ?_;rintro v36 h36 hS36;replace hS:St _ _ (_::_):=St.trans hS hS36;refine Om rfl (book_c (hS.rd 0 rfl) (Nat.le_trans hY.len aA) (fun x hx=>Nat.le_trans (hY.done.small x hx) aA) (hV2.ext hS.keeps)) ?_;rintro o h37 hO;have hO:=Bk.lift hS hO;rw[book_done hY.done] at hO;clear hS;obtain⟨vo,B,ho,hSO⟩:=hO;have hS:=St.refl h37;refine Ov ?_;refine Oo [5,7,8] ?_;refine b5 ?_;refine Oe ?_;refine Oe ?_;refine Om rfl (XF (line:=x) ho hSO (hV2.ext hSO.keeps) hxl) ?_;rintro _ h40 ⟨rfl,hO⟩;clear hSO;obtain⟨vo,B,ho,hSO⟩:=hO;clear hS;have hS:=St.refl h40;refine KOps.neq ?_;refine Oo [5,7,8,41] ?_;refine Kd ?_ ?_;intro c41;refine Ow ?_;refine Om rfl (works_c (hV2.ext hSO.keeps)) ?_;rintro _ hw ⟨rfl,hK⟩;refine Ov ?_;refine Oo [4] ?_;refine Zn ?_;refine sqQ.ret ?_;refine fnQ.ret1 ?_;exact⟨rfl,hk1.trans (hk0.trans (hSO.keeps.trans (hS.keeps.trans hK)))⟩
 ·intro c41;have hxd:O2 L x=0:=c41;obtain⟨hx1,hx2,_⟩:=QX hxd;have wt:=wt_of hx1;obtain⟨hw1,hw2,hw0⟩:=Rz wt;have hmo:=fun(Z:List Str) hz i hi=>more_ok hY.done hxd (Z:=Z) hz (i:=i) hi
  obtain⟨W,hW⟩:∃ W,OL 32 x=W:=⟨_,rfl⟩;rw[hW] at wt hw1 hw2 hw0 hmo;have ro:=St.rbk hSO ho;refine OB [5,7,8] ?_;refine cT ?_;refine Om rfl (Re (r.ext (hSO.keeps.trans hS.keeps))) ?_;rintro v44 h44 hS44;replace hS:St _ _ (_::_):=St.trans hS hS44;refine Om rfl (inside_c (hS.rd 0 rfl) hY.done (hV2.ext (hSO.keeps.trans hS.keeps)) (hE2.ext (hSO.keeps.trans hS.keeps))) ?_;rintro _ h45 ⟨Q,rfl,hQ,hS45⟩;obtain⟨H,hH⟩:∃ H,Q8 L=H:=⟨_,rfl⟩;rw[hH] at hS45;have rh:RHs h45 Q H:=St.rhs (St.trans hS hS45) hQ;have hk45:=hS.keeps.trans hS45.keeps;have hr:HRl (after L) H:=hH ▸ hY.done.hr;obtain⟨hsm1,hsm2,hsm3,hsm4⟩:=hr.small hY.done.wf.1;clear hS;have hS:=St.refl h45;refine Ov ?_;refine Oo [5,7,8,9] ?_;refine cT ?_;refine Om rfl (UZ (c:=32) (hV2.ext (hSO.keeps.trans (hk45.trans hS.keeps))).mx hxl) ?_;rintro v47 h47 ⟨hsl47,hS47⟩;rw[hW] at hS47;replace hS:St _ _ (⟨v47,1,wcs W,true⟩ :: []):=St.trans hS hS47;refine bl ?_;intro v48 h' hS;replace hS:St _ _ (⟨v48,1,wcs [[],[],[]],true⟩::_):=hS;refine KOps.appendW hS (fun _=>rfl) (i:=0) rfl (by have:=V3 32 x; rw[hW] at this; simp; omega) ?_;intro r49 h49 hr49 hS;refine cL ?_;have hz:=pad3_get W;have hZl : 3<(W ++ [[],[],[]]).length:=by simp; omega
  obtain⟨Z,hZ⟩:∃ Z,W ++ [[],[],[]]=Z:=⟨_,rfl⟩;rw[hZ] at hS hz hZl;rw[←hz] at hw2;have hmo:=hmo Z hz;rw[hH] at hmo;have r9:=r.ext (hSO.keeps.trans (hk45.trans hS.keeps));have ro9:=ro.ext (hk45.trans hS.keeps);have rh9:=rh.ext hS.keeps;have hV9:=hV2.ext (hSO.keeps.trans (hk45.trans hS.keeps));have hk49:=hS.keeps;refine Od ?_;refine Ou [5,8,9,10] ?_;refine cT ?_;refine Oq (hS.rd 0 rfl) (j:=2) rfl aB ?_;intro p52 hp52;refine OI hp52 (hS.rd 0 rfl) aB ?_;refine Om rfl (atoi_c (hE2.ext (hSO.keeps.trans (hk45.trans hS.keeps))) hw2) ?_;rintro _ _ ⟨rfl,rfl⟩;refine Oe ?_;refine O7 ?_;refine O7 ?_;refine Ov ?_;refine Ov ?_;refine Oo [5,8,9,10,11] ?_;refine Zs (X:=Unit) (fun _=>[(5,b),(8,o),(9,Q.po),(10,r49),(11,.int .i64 (atV (Z.getD 2 []))),(13,.bool (mN1 Z)),(14,.bool (mW1 Z))]) (fun _ h'=>h49=h') ?_ ?_
  ·
    refine be ?_;refine ch ?_;intro p58 hp58;refine OI hp58 (hS.rd 0 rfl) aB ?_;refine KU ?_;refine Oe ?_;refine ch ?_;intro p62 hp62;refine OI hp62 (hS.rd 0 rfl) aB ?_;refine KU ?_;refine Oe ?_;refine OC (dj:=65) rfl rfl false true rfl ?_ ?_
    · intro g65;have g65:=of_decide_eq_false g65;refine Oe ?_;refine Oh (dj:=65) rfl rfl ?_;refine ch ?_;intro p67 hp67;refine Oh (dj:=65) rfl rfl ?_;refine OI hp67 (hS.rd 0 rfl) aB ?_;refine Oh (dj:=65) rfl rfl ?_;refine KU ?_;refine OM ?_;refine Ov ?_;refine cL ?_;exact KM () aZ rfl
    intro g65;have g65:=of_decide_eq_true g65;refine Kp (dj:=65) rfl rfl rfl ?_;refine Kp (dj:=65) rfl rfl rfl ?_;refine Kp (dj:=65) rfl rfl rfl ?_;refine KX ?_;refine Ov ?_;refine cL ?_;exact KM () aZ rfl
  ·
    rintro _ _ rfl;refine Zs (X:=Unit) (fun _=>[(5,b),(8,o),(9,Q.po),(10,r49),(11,.int .i64 (atV (Z.getD 2 []))),(13,.bool (mN2 H Z)),(14,.bool (mW2 H Z))]) (fun _ h'=>h49=h') ?_ ?_
    ·
      refine cT ?_;refine ch ?_;intro p72 hp72;refine OI hp72 (hS.rd 0 rfl) aB ?_;refine KU ?_;refine Oo [5,8,9,10,11,13,14,74] ?_;refine Ol ?_ ?_
      · intro c74;refine be ?_;refine Oe ?_;refine On hQ.po ?_;refine Ob hQ.po ?_;intro p78 hp78;refine Of hp78 rh9.rd rfl ?_;refine bo ?_;intro p81 hp81;refine OI hp81 (hS.rd 0 rfl) aB ?_;refine ce ?_;refine ZW (j:=0) (m:=2) (e:=3) aE rfl aD rfl ?_;refine KOps.geq ?_;refine Oe ?_;refine Oe ?_;refine On hQ.po ?_;refine Ob hQ.po ?_;intro p89 hp89;refine Of hp89 rh9.rd rfl ?_;refine bo ?_;intro p92 hp92;refine OI hp92 (hS.rd 0 rfl) aB ?_;refine ce ?_;refine ZW (j:=0) (m:=2) (e:=3) aE rfl aD rfl ?_;refine KOps.leq ?_;refine Ov ?_;refine cL ?_;exact KM () aR rfl
      intro c74;refine Oy ?_;exact KM () aR rfl
    ·
      rintro _ _ rfl;refine Zs (X:=Unit) (fun _=>[(5,b),(8,o),(9,Q.po),(10,r49),(11,.int .i64 (atV (Z.getD 2 []))),(13,.bool (mN3 H Z)),(14,.bool (mW3 H Z))]) (fun _ h'=>h49=h') ?_ ?_
      ·
        refine cT ?_;refine ch ?_;intro p98 hp98;refine OI hp98 (hS.rd 0 rfl) aB ?_;refine KU ?_;refine Oo [5,8,9,10,11,13,14,100] ?_;refine Ol ?_ ?_
        · intro c100;refine be ?_;refine Oe ?_;refine On hQ.po ?_;refine Ob hQ.po ?_;intro p104 hp104;refine Of hp104 rh9.rd rfl ?_;refine bo ?_;intro p107 hp107;refine OI hp107 (hS.rd 0 rfl) aB ?_;refine ce ?_;refine ZW (j:=1) (m:=2) (e:=3) aE rfl aD rfl ?_;refine KOps.leq ?_;refine Oe ?_;refine Oe ?_;refine On hQ.po ?_;refine Ob hQ.po ?_;intro p115 hp115;refine Of hp115 rh9.rd rfl ?_;refine bo ?_;intro p118 hp118;refine OI hp118 (hS.rd 0 rfl) aB ?_;refine ce ?_;refine ZW (j:=1) (m:=2) (e:=3) aE rfl aD rfl ?_;refine KOps.geq ?_;refine Ov ?_;refine cL ?_;exact KM () aQ rfl
        intro c100;refine Oy ?_;exact KM () aQ rfl
      ·
        rintro _ _ rfl;refine Zs (X:=Unit) (fun _=>[(5,b),(8,o),(9,Q.po),(13,.bool (mN3 H Z)),(14,.bool (mW4 H Z))]) (fun _ h'=>h49=h') ?_ ?_
        ·
          refine cT ?_;refine ch ?_;intro p124 hp124;refine OI hp124 (hS.rd 0 rfl) aB ?_;refine KU ?_;refine Oo [5,8,9,13,14,126] ?_;refine Ol ?_ ?_;intro c126;refine OH rfl ?_;refine cL ?_;exact KM () af rfl;intro c126;refine Oy ?_;exact KM () af rfl
        ·
          rintro _ _ rfl;refine b5 ?_;refine Oe ?_;refine On hQ.po ?_;refine Ob hQ.po ?_;intro p129 hp129;refine Of hp129 rh9.rd rfl ?_;refine O6 rh9.ways ?_;refine Oe ?_;refine Oo [5,8,13,14,130,131,132] ?_;refine OD ?_;refine Kn (X:=Nat) (fun i=>[(5,b),(8,o),(13,.bool (mN3 H Z)),(14,.bool (mW4 H Z)),(130,Q.vw),(131,.int .i64 (H.ways.length:Int)),(132,.int .i64 (i:Int))]) (fun i h'=>i≤H.ways.length∧Keeps h49 h') (fun i=>H.ways.length - i) 0 ?_ ?_;exact⟨Nat.zero_le _,Keeps.refl _⟩;rintro i h3 ⟨hi,hk3⟩;clear hS;have hS:=St.refl h3;refine Ow ?_;refine QP ?_;refine cC ?_;refine Ol ?_ ?_
          · intro c133;have hlt:i<H.ways.length:=by omega
            obtain⟨sa,sc,sd,sf,hm1,hm2,hm3,hm4⟩:=hmo i hlt;refine OB [5,8,13,14,130,131,132] ?_;refine dI ?_;refine Oq (rh9.ext (hk3.trans hS.keeps)).ways (j:=i) rfl aB ?_;intro p134 hp134;refine OI hp134 (rh9.ext (hk3.trans hS.keeps)).ways aB ?_;refine Ov ?_;refine Oo [5,8,13,14,16,130,131,132] ?_;refine cT ?_;refine Oe ?_;refine Om rfl (UY (r9.ext (hk3.trans hS.keeps))) ?_;rintro _ h139 ⟨rfl,hK⟩;replace hS:St _ _ _:=St.trans hS (St.ofK hK)
            try simp only[List.nil_append] at hS
            unfold tup3;rw[hm1];refine Oe ?_;refine O7 ?_;refine O7 ?_;refine O7 ?_;refine Ov ?_;refine Ov ?_;refine Ov ?_;refine Oo [5,8,13,14,16,17,18,19,130,131,132] ?_;refine cT ?_;refine Oe ?_;refine Om rfl (UY (ro9.ext (hk3.trans hS.keeps))) ?_;rintro _ h146 ⟨rfl,hK⟩;replace hS:St _ _ _:=St.trans hS (St.ofK hK)
            try simp only[List.nil_append] at hS
            unfold tup3;rw[hm2];refine Oe ?_;refine O7 ?_;refine O7 ?_;refine O7 ?_;refine Ov ?_;refine Ov ?_;refine Ov ?_;refine Oo [5,8,13,14,17,18,19,20,21,22,130,131,132] ?_;refine cT ?_;refine Kv rfl ?_;refine Oe ?_;refine Oh (dj:=152) rfl rfl ?_;refine Oe ?_;refine Oh (dj:=152) rfl rfl ?_;refine Kv rfl ?_;refine OM ?_;refine Oe ?_;refine Oh (dj:=156) rfl rfl ?_;refine Oe ?_;refine Oh (dj:=156) rfl rfl ?_;refine KOps.not ?_;refine Oh (dj:=156) rfl rfl ?_;refine Oe ?_;refine OC (dj:=159) rfl rfl true false rfl ?_ ?_
            · intro g159;refine Oe ?_;refine Oh (dj:=159) rfl rfl ?_;refine Oe ?_;refine Oh (dj:=159) rfl rfl ?_;refine QP ?_;refine Oh (dj:=159) rfl rfl ?_;refine Oe ?_;refine OC (dj:=163) rfl rfl false true rfl ?_ ?_
              · intro g163;have g163:=of_decide_eq_false g163;refine Oe ?_;refine Oh (dj:=163) rfl rfl ?_;refine Oe ?_;refine Oh (dj:=163) rfl rfl ?_;refine ZA ?_;refine Oh (dj:=159) rfl rfl ?_;refine OM ?_;refine Oh (dj:=156) rfl rfl ?_;refine KX ?_;refine OM ?_;refine Oe ?_;refine OC (dj:=170) rfl rfl false true rfl ?_ ?_
                · intro g170;have g170:=of_decide_eq_false g170;refine Oe ?_;refine Oh (dj:=170) rfl rfl ?_;refine KOps.not ?_;refine Oh (dj:=170) rfl rfl ?_;refine Oe ?_;refine OC (dj:=173) rfl rfl true false rfl ?_ ?_
                  · intro g173;refine Oe ?_;refine Oh (dj:=173) rfl rfl ?_;refine Oe ?_;refine Oh (dj:=173) rfl rfl ?_;refine ZA ?_;refine Oh (dj:=173) rfl rfl ?_;refine Oe ?_;refine OC (dj:=177) rfl rfl false true rfl ?_ ?_
                    · intro g177;have g177:=of_decide_eq_false g177;refine Oe ?_;refine dF ?_;refine Ol ?_ ?_
                      · intro c183;exfalso;have hm5:=hm4 (by simpa using g173)
                        try dsimp only at c183
                        omega
                      intro c183;refine bu ?_;exact lpN (i+1) ⟨by omega,hk3.trans hS.keeps⟩ aA
                    · intro g177;have g177:=of_decide_eq_true g177;exfalso;have hm5:=hm4 (by simpa using g173)
                      try dsimp only at g177
                      omega
                  intro g173;refine cM ?_;refine bz ?_;refine OV ?_;refine bu ?_;exact lpN (i+1) ⟨by omega,hk3.trans hS.keeps⟩ aA
                · intro g170;have g170:=of_decide_eq_true g170;exfalso;have hm5:=hm3 (by simpa using g159)
                  try dsimp only at g170
                  omega
              · intro g163;have g163:=of_decide_eq_true g163;exfalso;have hm5:=hm3 (by simpa using g159)
                try dsimp only at g163
                omega
            · intro g159;refine Kp (dj:=159) rfl rfl rfl ?_;refine Kp (dj:=159) rfl rfl rfl ?_;refine Kp (dj:=159) rfl rfl rfl ?_;refine KW (dj:=163) rfl rfl ?_;refine KW (dj:=163) rfl rfl ?_;refine KW (dj:=163) rfl rfl ?_;refine Kp (dj:=159) rfl rfl rfl ?_;refine Oh (dj:=156) rfl rfl ?_;refine OM ?_;refine OM ?_;refine Oe ?_;refine Oh (dj:=170) rfl rfl ?_;refine Oe ?_;refine Oh (dj:=170) rfl rfl ?_;refine KOps.not ?_;refine Oh (dj:=170) rfl rfl ?_;refine Oe ?_;refine OC (dj:=173) rfl rfl true false rfl ?_ ?_
              · intro g173;refine Oe ?_;refine Oh (dj:=173) rfl rfl ?_;refine Oe ?_;refine Oh (dj:=173) rfl rfl ?_;refine ZA ?_;refine Oh (dj:=173) rfl rfl ?_;refine Oe ?_;refine OC (dj:=177) rfl rfl false true rfl ?_ ?_
                · intro g177;have g177:=of_decide_eq_false g177;refine Oe ?_;refine dF ?_;refine Ol ?_ ?_
                  · intro c183;exfalso;have hm5:=hm4 (by simpa using g173)
                    try dsimp only at c183
                    omega
                  intro c183;refine bu ?_;exact lpN (i+1) ⟨by omega,hk3.trans hS.keeps⟩ aA
                · intro g177;have g177:=of_decide_eq_true g177;exfalso;have hm5:=hm4 (by simpa using g173)
                  try dsimp only at g177
                  omega
              intro g173;refine cM ?_;refine bz ?_;refine OV ?_;refine bu ?_;exact lpN (i+1) ⟨by omega,hk3.trans hS.keeps⟩ aA
          intro c133;refine bW ?_;refine Ou [] ?_;refine Ow ?_;refine Om rfl (works_c (hV9.ext (hk3.trans hS.keeps))) ?_;rintro _ hw ⟨rfl,hK⟩;refine Ov ?_;refine Oo [4] ?_;refine Zn ?_;refine fnQ.ret1 ?_;exact⟨rfl,hk1.trans (hk0.trans (hSO.keeps.trans (hk45.trans (hk49.trans (hk3.trans (hS.keeps.trans hK))))))⟩
end Go.Am
namespace Go.Am
theorem law_more {h : AHeap} {v1 : AV} {y1 : List Q4} {x : List Int} (hv1 : Rd h v1 4 (flr qc y1)) (hy1 : ∀ q ∈ y1, q.Ok) (hz : Vse h) (hl : x.length = 4) (hw : ∀ a ∈ x, (Lit.int .u8 a).wf = true) :
    ACalls Go.Proofs.Tryz.prog 13 [v1,.agg (x.map (AV.int .u8))] h (fun q h'=>q = .bool true∧Keeps h h'):=by
 obtain⟨e,ok⟩:=qc_of hl hw;rw[e];exact Rj hv1 hy1 ok hz.vs hz.er
end Go.Am
