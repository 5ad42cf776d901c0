/-
  Tops: books of stamps, told line by line: the law.
  Conditions: none.
-/
import Derived.Test.YtdfhmdhjeiipfaaGreatDoorBkr
import Derived.Test.YtdfhmdhjeiipfaaGreatDoorAmT
import Derived.Test.YtdfhmdhjeiipfaaGreatDoorRows
import Derived.MakeChecks
import Derived.HandedShaped
import Derived.Shelf.Vars
open List renaming nil_append → dO, getElem?_eq_getElem → dU, getD_eq_getElem?_getD → dM, getElem?_map → dN, getElem?_eq_some_iff → dP, length_map → dQ, set_cons_zero → dR, set_cons_succ → dS
open Option.some renaming inj → dY
set_option maxRecDepth 99999
set_option maxHeartbeats 4000000
namespace Go.Am
section
variable {P:Program} {n:Nat} {ops:Array Oper} {ex:List Nat} {Q:KF→AHeap→Prop} {k:Nat} {os:List Oper} {K:KF} {h:AHeap} {d:Nat} {ty:TypeId} {pos:String} {after:Array Edge}
theorem Ze {t t':TypeId} {x y:Operand} {kd:IntKind} {a b:Int} [hx:EvK h.globs n K x (.int kd a)] [hy:EvK h.globs n K y (.int kd b)] (hab:a=b) (hk:KOps P n ops ex Q (k+1) os ((d,.bool false)::K) h):KOps P n ops ex Q k (⟨some d,.binOp .neq t x y t',ty,pos,after,none⟩::os) K h:=
  KOps.neq (a:=a) (b:=b) (by rw[decide_eq_true hab]; exact hk)
theorem KOps.lssZ {t t':TypeId} {x y:Operand} {kd:IntKind} {a b:Int} [hx:EvK h.globs n K x (.int kd a)] [hy:EvK h.globs n K y (.int kd b)] (hab:¬ a<b) (hk:KOps P n ops ex Q (k+1) os ((d,.bool false)::K) h):KOps P n ops ex Q k (⟨some d,.binOp .lss t x y t',ty,pos,after,none⟩::os) K h:=
  K6 (a:=a) (b:=b) (by rw[decide_eq_false hab]; exact hk)
theorem KOps.geqZ {t t':TypeId} {x y:Operand} {kd:IntKind} {a b:Int} [hx:EvK h.globs n K x (.int kd a)] [hy:EvK h.globs n K y (.int kd b)] (hab:¬ b≤a) (hk:KOps P n ops ex Q (k+1) os ((d,.bool false)::K) h):KOps P n ops ex Q k (⟨some d,.binOp .geq t x y t',ty,pos,after,none⟩::os) K h:=
  KOps.geq (a:=a) (b:=b) (by rw[decide_eq_false hab]; exact hk)
theorem KOps.neqBZ {t t':TypeId} {x y:Operand} {a b:Bool} [hx:EvK h.globs n K x (.bool a)] [hy:EvK h.globs n K y (.bool b)] (ht:XT P t=true) (hab:a=b) (hk:KOps P n ops ex Q (k+1) os ((d,.bool false)::K) h):KOps P n ops ex Q k (⟨some d,.binOp .neq t x y t',ty,pos,after,none⟩::os) K h:=
  KOps.neqB (a:=a) (b:=b) ht (by rw[hab,beq_self_eq_true]; exact hk)
theorem KOps.wNeF {t t':TypeId} {x y:Operand} {a b:Str} [hx:EvK h.globs n K x (.str (wdQ a))] [hy:EvK h.globs n K y (.str (wdQ b))] (hab:a=b) (hk:KOps P n ops ex Q (k+1) os ((d,.bool false)::K) h):KOps P n ops ex Q k (⟨some d,.binOp .neq t x y t',ty,pos,after,none⟩::os) K h:=
  O9 rfl (by simp only[apure,hx.eq,hy.eq,Zq,astr,wd_eql,decide_eq_true hab]; rfl) hk
end
theorem paper7_c {h:AHeap} {a:Int} {vH:AV} {hs:List Q4} (hv:Rd h vH 4 (flr q4 hs)) (ha0 : 0≤a) (ha1:a≤255) (hx:∀ i,i<hs.length→(hs.getD i default).Ok):ACalls Go.Proofs.Tryz.prog 19 [.int .u8 a,vH,.int .i64 7,.int .i64 5] h (fun q h'=>∃ rm ws v,BOk rm ws∧rm≤4∧ws.length≤7∧q = .agg [.int .i64 rm,v]∧St h h' [⟨v,4,flr wc ws,true⟩]):=by
 obtain⟨r,h',he,v,hq,hS⟩:=paper_c (m:=7) (wide:=5) hv ha0 ha1 hx aE aE;have hb:=Se ha0;exact⟨r,h',he,_,_,v,paper_ok hb.1 aA aE aE hx,hb.2,by rw[YQ]; omega,hq,hS⟩
theorem spanE_c {h:AHeap} {b vl:AV} {A:OA} {lines:List Str} (r:RBk h b vl A lines) {w:Str} {x y e:Int} (he:(after lines).spn w=(x,y,e)):ACalls Go.Proofs.Tryz.prog 30 [b,.str (wdQ w)] h (fun q h'=>q = .tup [.int .i64 x,.int .i64 y,.int .i64 e]∧Keeps h h'):=by
 obtain⟨q,h',hev,hq,hk⟩:=spanB_c r (w:=w);rw[he] at hq;exact⟨q,h',hev,hq,hk⟩
theorem booked_c {h:AHeap} {a:Int} {vH:AV} {hs:List Q4} (hv:Rd h vH 4 (flr q4 hs)) (ha0 : 0≤a) (ha1:a≤255) (hx:∀ i,i<hs.length→(hs.getD i default).Ok) (hV:Vs h):ACalls Go.Proofs.Tryz.prog 6 [.int .u8 a,vH] h (fun q _=>q = .bool true):=by
 refine OI 231 [.tmp 4] Go.Proofs.Tryz.func6 rfl aE rfl rfl (Nat.le_of_ble_eq_true rfl) ?_;have hS:=St.refl h;have hvo:vH.one=true:=hv.one;show KA _ 231 _ _ [(0,.int .u8 a),(1,vH)] _;refine OL [0,1] ?_;refine OE ?_;refine Ol rfl (paper7_c (Rd.ext hS.keeps hv) ha0 ha1 hx) ?_;rintro _ h39 ⟨rm,ws,vW,hB,hr4,hw7,rfl,hS39⟩;replace hS:St _ _ (_::_):=St.trans hS hS39;refine O1 hS ?_;intro p5 h' hp5 hS;refine O7 hS rfl (i:=0) rfl hp5 (by show(true && (vW.one && true))=true; rw[St.one hS (k:=1) (o:=⟨vW,4,_,true⟩) rfl]; rfl) aH aH aE ?_;intro h' hS;simp only[dR,dS,Nat.zero_add] at hS;refine On [5] ?_;refine Oq ?_;refine OM hS (i:=0) rfl hp5 aH aE ?_;refine Ol rfl (written_c (rm:=rm) (ws:=ws) (hS.rd 1 rfl) hB hr4 hw7 (hV.ext hS.keeps)) ?_;rintro _ hb0 ⟨vO,ls,r,gd,hfold,rfl,vl,A,hbk,hSb⟩;obtain⟨rfl,hcan,hspn,hfull⟩:=book_told hB hr4 hw7 hfold;have hR:=St.rbk hSb hbk;have hP:=Rd.ext hSb.keeps (hS.rd 0 rfl);have hvW:=Rd.ext hSb.keeps (hS.rd 1 rfl);have hVb:=hV.ext (hS.keeps.trans hSb.keeps);have hvO:vO.one=true:=Tv hR.ad;have hrm2:=hB.r2;clear hS hSb;have hS:=St.refl hb0;refine OL [5,6,7,8] ?_;refine Oq ?_;refine QX (z:=2) hp5 (Rd.ext hS.keeps hP) aE aN ?_;refine Ol rfl (stCan_c (rm:=rm) (Rd.ext hS.keeps hvW)) ?_;rintro _ hx ⟨rfl,hK⟩;replace hS:St _ _ _:=St.trans hS (St.ofK hK);simp only[dO] at hS;rw[hcan,hB.chkQ];refine OL [5,6,7,8,9,10] ?_;refine OE ?_;refine Ze rfl ?_;refine OE ?_;refine KOps.not ?_;refine Oy ?_;refine OE ?_;refine KB ?_;refine Oi (dj:=57) rfl rfl ?_;refine KOps.neqBZ aC rfl ?_;refine Oy ?_;refine On [5,6,9,62] ?_;refine OP ?_;refine OC [5,6,9] ?_;refine OE ?_;refine KOps.not ?_;refine On [5,6,64] ?_;refine Kc ?_ ?_;intro c64;refine bu ?_;refine Ob hp5 ?_;intro p65 hp65;refine Oe hp65 (Rd.ext hS.keeps hP) rfl ?_;refine Qi KC (Rd.ext hS.keeps hvW) ?_;refine OL [6,67,68] ?_;refine Oz ?_;refine Kb (X:=Nat) (fun i=>[(6,vO),(67,.int .i64 (ws.length:Int)),(68,.int .i64 ((i:Nat):Int))]) (fun i h'=>i≤ws.length∧St hb0 h' []) (fun i=>ws.length - i) 0 ?_ ?_;exact⟨Nat.zero_le _,hS⟩;rintro i h5 ⟨hi,hS⟩;refine bh ?_;refine Om ?_ ?_;intro c69;refine OC [6,67,68] ?_;refine bg ?_;refine OL [6,11,67,68] ?_;refine OE ?_;refine Ol rfl (XP (i:=i) aA) ?_;rintro _ hx ⟨rfl,hK⟩;replace hS:St _ _ _:=St.trans hS (St.ofK hK);simp only[dO] at hS;obtain⟨x,y,hxy⟩:∃ x y,(after ls).spn (Ki i)=(x,y,0):=⟨_,_,Prod.ext rfl (Prod.ext rfl (hspn i aA))⟩;refine Ol rfl (spanE_c (hR.ext hS.keeps) hxy) ?_;rintro _ hx ⟨rfl,hK⟩;replace hS:St _ _ _:=St.trans hS (St.ofK hK);simp only[dO] at hS;refine OL [6,14,67,68] ?_;refine OE ?_;refine Ze rfl ?_;refine On [6,67,68,80] ?_;refine OP ?_;refine b3 ?_;refine Ox [6,67,68] ?_;refine bf ?_;exact lpN (i+1) ⟨by omega,hS⟩ aA;intro c69;refine bP ?_;refine Ox [] ?_;refine Oq ?_;refine Ol rfl (Ux (hVb.ext hS.keeps)) ?_;rintro _ hx ⟨rfl,hK⟩;replace hS:St _ _ _:=St.trans hS (St.ofK hK);simp only[dO] at hS;refine OL [4] ?_;refine Oh ?_;rfl
 ·intro c64;have T:Told rm ws ls:=⟨hB,hw7,hr4,by rw[hcan]; exact decide_eq_true c64,(hfull c64).1,(hfull c64).2.1,(hfull c64).2.2.1,(hfull c64).2.2.2⟩;refine OC [5,6] ?_;refine Oq ?_;refine QX (z:=2) hp5 (Rd.ext hS.keeps hP) aE aN ?_;refine Ol rfl (Ta (rm:=rm) (Rd.ext hS.keeps hvW)) ?_;rintro _ h85 ⟨v85,rfl,hS85⟩;rw[T.agree];rw[if_pos T.agree] at hS85;replace hS:St _ _ (_::_):=St.trans hS hS85;refine OL [5,6,15,16] ?_;refine Oq ?_;refine QX (z:=2) hp5 (Rd.ext hS.keeps hP) aE aN ?_;refine Ol rfl (stOpen_c (rm:=rm) (Rd.ext hS.keeps hvW)) ?_;rintro _ h90 ⟨v90,rfl,hS90⟩;rw[T.agree];rw[if_pos T.agree] at hS90;replace hS:St _ _ (_::_):=St.trans hS hS90;refine OL [5,6,15,16,17,18] ?_;refine OE ?_;refine Ze rfl ?_;refine OE ?_;refine Ze rfl ?_;refine Oy ?_;refine OE ?_;refine Qi YD (hS.rd 1 rfl) ?_;rw[XF];refine Oi (dj:=99) rfl rfl ?_;refine Ob hp5 ?_;intro p102 hp102;refine Oi (dj:=99) rfl rfl ?_;refine Oe hp102 (Rd.ext hS.keeps hP) rfl ?_;refine Oi (dj:=99) rfl rfl ?_;refine Qi KC (Rd.ext hS.keeps hvW) ?_;refine Oi (dj:=99) rfl rfl ?_;refine Ze rfl ?_;refine Oy ?_;refine On [5,6,15,17,106] ?_;refine OP ?_;refine OC [5,6,15,17] ?_;refine OE ?_;refine b6 ?_;refine OE ?_;refine Qi YD (hS.rd 1 rfl) ?_;rw[XF];refine OL [5,6,17,19,107,108,109] ?_;refine Oz ?_;refine Kb (X:=Nat × AV) (fun x=>[(5,p5),(6,vO),(17,v90),(107,v85),(108,.int .i64 (ws.length:Int)),(19,x.2),(109,.int .i64 ((x.1:Nat):Int))]) (fun x h'=>x.1≤ws.length∧St hb0 h' [⟨x.2,1,wcsQ (Zo ws x.1),true⟩,⟨v90,1,ints (QE ws ws.length),true⟩,⟨v85,2,flr pc (Qw ws ws.length),true⟩]) (fun x=>ws.length - x.1) (0,.nils) ?_ ?_;exact⟨Nat.zero_le _,St.nil hS 1⟩;rintro⟨i,vs⟩ h3 ⟨hi,hS⟩;dsimp only at hi hS⊢;refine bh ?_;refine Om ?_ ?_
  ·intro c110;refine OC [5,6,17,19,107,108,109] ?_;refine ch ?_;have hsl:(Qw ws ws.length).length=ws.length:=XF _ _;refine Of ?_;refine KZ YD (hS.rd 2 rfl) (j:=i) rfl aF ?_;intro p112 hp112;refine K3 YD aE hp112 (hS.rd 2 rfl) aF ?_;rw[VP aA];refine O1 hS ?_;intro p21 h' hp21 hS;refine Ov ?_;refine O7 hS rfl (i:=0) rfl hp21 aB aH aH aE ?_;intro h' hS;simp only[dR,dS,Nat.zero_add] at hS;refine On [5,6,17,19,20,21,107,108,109] ?_;refine OE ?_;refine Ol rfl (XP (i:=i) aA) ?_;rintro _ hx ⟨rfl,hK⟩;replace hS:St _ _ _:=St.trans hS (St.ofK hK);simp only[dO] at hS;refine OL [5,6,17,19,20,21,22,107,108,109] ?_;refine OE ?_;refine Ol rfl (spanE_c (hR.ext hS.keeps) (T.spn (i:=i) aA)) ?_;rintro _ hx ⟨rfl,hK⟩;replace hS:St _ _ _:=St.trans hS (St.ofK hK);simp only[dO] at hS;refine OL [5,6,17,19,20,21,22,23,24,25,107,108,109] ?_;refine OE ?_;refine Ze rfl ?_;refine OE ?_;refine KOps.buildS2 (z0:=.int .i64 0) (z1:=.int .i64 0) aC aH aC aC aC aG aG ?_;refine Oi (dj:=125) rfl rfl ?_;refine OM hS (i:=0) rfl hp21 aH aE ?_;refine Oi (dj:=125) rfl rfl ?_;refine KOps.neqArr (e:=3) (l:=[Qd ws i,K9 ws i]) (m:=[Qd ws i,K9 ws i]) aC aC aC aC rfl rfl ?_;rw[decide_eq_true rfl];refine Oy ?_;refine On [5,6,17,19,20,21,22,107,108,109,126,127,128,129,130,131] ?_;refine OP ?_;refine OC [5,6,17,19,20,21,22,107,108,109,126,127,128,129,130] ?_;refine KA.meet (X:=AV) (fun y=>[(5,p5),(6,vO),(17,v90),(107,v85),(108,.int .i64 (ws.length:Int)),(109,.int .i64 ((i:Nat):Int)),(20,.int .i64 ((i:Nat):Int)),(21,p21),(22,.str (wdQ (Ki i))),(19,y)]) (fun y h'=>St hb0 h' [⟨p21,0,ints [Qd ws i,K9 ws i],true⟩,⟨y,1,wcsQ (Zo ws (i+1)),true⟩,⟨v90,1,ints (QE ws ws.length),true⟩,⟨v85,2,flr pc (Qw ws ws.length),true⟩]) ?_ ?_
   ·
     refine OE ?_;refine Ol rfl (within_c (x:=((i:Nat):Int)) (hS.rd 2 rfl) (by have:=WL ws ws.length; omega)) ?_;rintro _ _ ⟨rfl,rfl⟩;rw[T.open_ aA];refine KOps.not ?_;rw[Bool.not_not];refine On [5,6,17,19,20,21,22,107,108,109,126,127,128,129,130,135] ?_;refine Om ?_ ?_
     · intro c135;refine O3 rfl ?_;have hsn:=Tc ws i;refine OE ?_;refine bo ?_;intro v138 h' hS;refine QL hS (fun _=>rfl) (i:=1) rfl aF ?_;intro r139 h' hr139 hS;refine Ov ?_;refine Og ?_;exact mtN _ (by rw[WX,if_pos c135]; exact hS)
     intro c135;refine OB ?_;exact mtN _ (by rw[WX,if_neg c135]; exact hS)
   ·
     rintro vs h8 hS;refine Oq ?_;refine bo ?_;intro v140 h' hS;refine KOps.lenV (hS.rd 0 rfl) ?_;refine Of ?_;refine b6 ?_;refine Oz ?_;refine Kb (X:=Nat) (fun j=>[(5,p5),(6,vO),(17,v90),(107,v85),(108,.int .i64 (ws.length:Int)),(109,.int .i64 ((i:Nat):Int)),(20,.int .i64 ((i:Nat):Int)),(21,p21),(22,.str (wdQ (Ki i))),(19,vs),(140,v140),(141,.int .i64 2),(142,.int .i64 ((j:Nat):Int))]) (fun j h'=>j≤2∧St hb0 h' [⟨v140,1,[.bool true,.bool false],true⟩,⟨p21,0,ints [Qd ws i,K9 ws i],true⟩,⟨vs,1,wcsQ (Zo ws (i+1)),true⟩,⟨v90,1,ints (QE ws ws.length),true⟩,⟨v85,2,flr pc (Qw ws ws.length),true⟩]) (fun j=>2 - j) 0 ?_ ?_;exact⟨by decide,hS⟩;rintro j h4 ⟨hj,hS⟩;refine bh ?_;refine Om ?_ ?_
     · intro c143;refine OC [5,6,17,19,20,21,22,107,108,109,140,141,142] ?_;refine ch ?_;refine KOps.indexVJ (hS.rd 0 rfl) (j:=j) rfl aF ?_;intro p144 hp144;refine KOps.loadV hp144 (hS.rd 0 rfl) aF ?_;obtain⟨g,hg⟩:∃ g:Bool,([.bool true,.bool false]:List AV).getD j .bot = .bool g:=by rcases(show j=0∨j=1 by omega) with rfl|rfl <;> exact⟨_,rfl⟩
       rw[hg];refine OL [5,6,17,19,20,21,22,27,107,108,109,140,141,142] ?_;refine Oq ?_;have hlh:=lo_hi_99 hB T.flow (i:=i) aA;have hle:=T.le (i:=i) aA;refine KX hp21 (j:=1) rfl aE ?_;intro p146 hp146;refine Oe hp146 (hS.rd 1 rfl) rfl ?_;refine Kt aD aD ?_;refine OL [5,6,17,19,20,21,22,27,28,107,108,109,140,141,142] ?_;refine KA.meet (X:=Unit) (fun y=>[(5,p5),(6,vO),(17,v90),(107,v85),(108,.int .i64 (ws.length:Int)),(109,.int .i64 ((i:Nat):Int)),(20,.int .i64 ((i:Nat):Int)),(21,p21),(22,.str (wdQ (Ki i))),(19,vs),(140,v140),(141,.int .i64 2),(142,.int .i64 ((j:Nat):Int)),(27,.bool g),(28,.int .i64 (XC (Qd ws i) (K9 ws i) g))]) (fun y h'=>St hb0 h' [⟨v140,1,[.bool true,.bool false],true⟩,⟨p21,0,ints [Qd ws i,K9 ws i],true⟩,⟨vs,1,wcsQ (Zo ws (i+1)),true⟩,⟨v90,1,ints (QE ws ws.length),true⟩,⟨v85,2,flr pc (Qw ws ws.length),true⟩]) ?_ ?_
       ·
         refine OE ?_;refine KOps.not ?_;refine On [5,6,17,19,20,21,22,27,28,107,108,109,140,141,142,150] ?_;refine Km ?_ ?_;intro c150;obtain rfl:g=false:=by simpa using c150
         refine O3 rfl ?_;refine KX hp21 (j:=0) rfl aE ?_;intro p151 hp151;refine Oe hp151 (hS.rd 1 rfl) rfl ?_;refine Zx aD aD ?_;refine Ov ?_;refine Og ?_;exact mtQ.normal () ac hS;intro c150;obtain rfl:g=true:=by simpa using c150
         refine OB ?_;exact mtQ.normal () ac hS
       ·
         rintro _ h9 hS;refine Oq ?_;refine QX (z:=2) hp5 (Rd.ext hS.keeps hP) aE aN ?_;refine OE ?_;refine Ol rfl (Rn (rm:=rm) (i:=((i:Nat):Int)) (Rd.ext hS.keeps hvW) (hVb.ext hS.keeps).sz g) ?_;rintro _ h158 ⟨v158,rfl,hS158⟩;rw[T.ask aA];replace hS:St _ _ (_::_):=St.trans hS hS158;refine OL [5,6,17,19,20,21,22,28,29,30,107,108,109,140,141,142] ?_;refine OE ?_;refine Ol rfl (whyB_c (hR.ext hS.keeps) (hVb.ext hS.keeps) (w:=Ki i) (n:=XC (Qd ws i) (K9 ws i) g)) ?_;rintro _ h165 ⟨v165,rfl,hS165⟩;rw[T.whyE aA];rw[T.whyL aA] at hS165;replace hS:St _ _ (_::_):=St.trans hS hS165;refine OL [5,6,17,19,20,21,22,29,30,31,32,107,108,109,140,141,142] ?_;refine OE ?_;refine Ze rfl ?_;refine OE ?_;refine Ze rfl ?_;refine Oy ?_;refine OE ?_;refine Kk (hS.rd 0 rfl) ?_;refine OE ?_;refine Kk (hS.rd 1 rfl) ?_;refine Oi (dj:=174) rfl rfl ?_;refine Ze (by rw[dQ]) ?_;refine Oy ?_;refine On [5,6,17,19,20,21,22,29,31,107,108,109,140,141,142,171,172,175,176,177,178,179,180] ?_;refine OP ?_;refine OC [5,6,17,19,20,21,22,29,31,107,108,109,140,141,142,171,172,175,176,177,178,179] ?_;refine OE ?_;refine Kk (hS.rd 1 rfl) ?_;refine OL [5,6,17,19,20,21,22,31,107,108,109,140,141,142,171,172,175,176,177,178,179,181,182,183] ?_;refine Oz ?_;refine Kb (X:=Nat) (fun q=>[(5,p5),(6,vO),(17,v90),(107,v85),(108,.int .i64 (ws.length:Int)),(109,.int .i64 ((i:Nat):Int)),(20,.int .i64 ((i:Nat):Int)),(21,p21),(22,.str (wdQ (Ki i))),(19,vs),(140,v140),(141,.int .i64 2),(142,.int .i64 ((j:Nat):Int)),(31,v165),(181,v158),(182,.int .i64 ((Kp rm ws ((i:Nat):Int) g).length:Int)),(183,.int .i64 ((q:Nat):Int))]) (fun q h'=>q≤(Kp rm ws ((i:Nat):Int) g).length∧St hb0 h' [⟨v165,1,wcsQ ((Kp rm ws ((i:Nat):Int) g).map fun x=>Ki x.toNat),true⟩,⟨v158,1,ints (Kp rm ws ((i:Nat):Int) g),true⟩,⟨v140,1,[.bool true,.bool false],true⟩,⟨p21,0,ints [Qd ws i,K9 ws i],true⟩,⟨vs,1,wcsQ (Zo ws (i+1)),true⟩,⟨v90,1,ints (QE ws ws.length),true⟩,⟨v85,2,flr pc (Qw ws ws.length),true⟩]) (fun q=>(Kp rm ws ((i:Nat):Int) g).length - q) 0 ?_ ?_;exact⟨Nat.zero_le _,hS⟩;rintro q h6 ⟨hq,hS⟩;have hbl:=V3 (rm:=rm) (ws:=ws) (i:=((i:Nat):Int)) (g:=g);refine bh ?_;refine Om ?_ ?_
         · intro c184;refine OC [5,6,17,19,20,21,22,31,107,108,109,140,141,142,181,182,183] ?_;refine ch ?_;have hbi:=Vv (rm:=rm) (ws:=ws) (i:=((i:Nat):Int)) (g:=g) aA hB.r6 ((Kp rm ws ((i:Nat):Int) g).getD q 0) (getD_memQ aA);refine Of ?_;refine OD (hS.rd 1 rfl) (j:=q) rfl aF ?_;intro p186 hp186;refine Ke hp186 (hS.rd 1 rfl) aF ?_;refine OL [5,6,17,19,20,21,22,31,33,34,107,108,109,140,141,142,181,182,183] ?_;refine Ot ?_;refine OR [14] mixed rfl aC ?_;refine Of ?_;refine KOps.lssZ aA ?_;refine OE ?_;refine Ob hp5 ?_;intro p192 hp192;refine Oi (dj:=190) rfl rfl ?_;refine Oe hp192 (Rd.ext hS.keeps hP) rfl ?_;refine Oi (dj:=190) rfl rfl ?_;refine KOps.geqZ aA ?_;refine Oy ?_;refine OE ?_;refine OD (hS.rd 0 rfl) (j:=q) rfl aF ?_;intro p199 hp199;refine Oi (dj:=196) rfl rfl ?_;refine Kv hp199 (hS.rd 0 rfl) aF ?_;refine OE ?_;refine Ku (fun _ _ q=>q.2) (JQ (x:=(Kp rm ws ((i:Nat):Int) g).getD q 0) aA aA) ?_;rintro _ hx ⟨rfl,hK⟩;replace hS:St _ _ _:=St.trans hS (St.ofK hK);simp only[dO] at hS;refine Oi (dj:=196) rfl rfl ?_;refine KOps.wNeF (by rw[dM,dN,dM,dU aA]; rfl) ?_;refine Oy ?_;refine On [5,6,17,19,20,21,22,31,107,108,109,140,141,142,181,182,183,191,192,193,194,197,198,199,200,201,202,203,204] ?_;refine OP ?_;refine b3 ?_;refine Ox [5,6,17,19,20,21,22,31,107,108,109,140,141,142,181,182,183,191,192,193,194,197,198,199,200,201,202,203] ?_;refine bf ?_;exact lpN (q+1) ⟨by omega,hS⟩ aA
         intro c184;refine cJ ?_;refine ba ?_;refine Ox [5,6,17,19,20,21,22,107,108,109,140,141,142] ?_;refine bf ?_;exact lpN (j+1) ⟨by omega,St.tail (St.tail hS)⟩ aA
     intro c143;refine cJ ?_;refine ba ?_;refine Ox [5,6,17,19,107,108,109] ?_;refine bf ?_;exact lpN (i+1,vs) ⟨by dsimp only; omega,St.tail (St.tail hS)⟩ aI
  ·intro c110;obtain rfl:i=ws.length:=by omega
   refine bP ?_;refine Ox [6,19] ?_;refine OE ?_;refine Ol rfl (sureB_c (hR.ext hS.keeps)) ?_;rintro v209 h209 hS209;rw[T.sure] at hS209;replace hS:St _ _ (_::_):=St.trans hS hS209;refine OL [19,35] ?_;refine OE ?_;refine Kk (hS.rd 0 rfl) ?_;refine Of ?_;refine Kk (hS.rd 1 rfl) ?_;refine Ze rfl ?_;refine On [19,35,214] ?_;refine OP ?_;refine OC [19,35] ?_;refine OE ?_;refine Kk (hS.rd 0 rfl) ?_;refine OL [19,35,216,217] ?_;refine Oz ?_;refine Kb (X:=Nat) (fun q=>[(19,vs),(35,v209),(216,.int .i64 ((Zo ws ws.length).length:Int)),(217,.int .i64 ((q:Nat):Int))]) (fun q h'=>q≤(Zo ws ws.length).length∧St hb0 h' [⟨v209,1,wcsQ (Zo ws ws.length),true⟩,⟨vs,1,wcsQ (Zo ws ws.length),true⟩,⟨v90,1,ints (QE ws ws.length),true⟩,⟨v85,2,flr pc (Qw ws ws.length),true⟩]) (fun q=>(Zo ws ws.length).length - q) 0 ?_ ?_;exact⟨Nat.zero_le _,hS⟩;rintro q h6 ⟨hq,hS⟩;have hsl:=Tc ws ws.length;refine bh ?_;refine Om ?_ ?_
   ·intro c218;refine OC [19,35,216,217] ?_;refine bg ?_;refine OL [19,35,36,216,217] ?_;refine bX ?_;refine OE ?_;refine OD (hS.rd 0 rfl) (j:=q) rfl aF ?_;intro p222 hp222;refine Kv hp222 (hS.rd 0 rfl) aF ?_;refine OE ?_;refine OD (hS.rd 1 rfl) (j:=q) rfl aF ?_;intro p226 hp226;refine Kv hp226 (hS.rd 1 rfl) aF ?_;refine KOps.wNeF rfl ?_;refine On [19,35,216,217,228] ?_;refine OP ?_;refine b3 ?_;refine Ox [19,35,216,217] ?_;refine bf ?_;exact lpN (q+1) ⟨by omega,hS⟩ aA
   intro c218;refine bP ?_;refine Ox [] ?_;refine Oq ?_;refine Ol rfl (Ux (hVb.ext hS.keeps)) ?_;rintro _ hx ⟨rfl,hK⟩;replace hS:St _ _ _:=St.trans hS (St.ofK hK);simp only[dO] at hS;refine OL [4] ?_;refine Oh ?_;rfl
end Go.Am
namespace Go.Am
theorem VRels.split {φ:Emb} {a b:List AV} {cs:List Value} {s:Nat} (h1:VRels φ a (cs.take s)) (h2:VRels φ b (cs.drop s)) (hs:s≤cs.length):VRels φ (a ++ b) cs∧(a ++ b).take s=a∧(a ++ b).drop s=b:=by
 have ha:a.length=s:=by rw[h1.1,List.length_take]; omega
 have h3:=VRels.append h1 h2;rw[List.take_append_drop] at h3;exact⟨h3,by rw[←ha,List.take_left],by rw[←ha,List.drop_left]⟩
end Go.Am
namespace Go
variable {H:Type} {enc:TypeId × Value→H}
theorem returnsInHanded_of_change_andShaped {a : Assume} {C : Checked} {os : Os} {f : FuncId} {fn : Func} {s : ChangeSpec} {conds : List PathCond} {apart fresh handsOn again : Bool} {X : World → Array Value → Prop}
    (hX:∀ (w w':World) (args:Array Value),w.heap=w'.heap→X w args→X w' args)
    (own:ownKnob C.prog.godebug=none) (started:os.Started) (noInit:C.prog.inits.idxOf? f=none) (hfn:C.prog.funcs[f]? = some fn)
    (witness : ∃ (w : World) (tape : Tape) (i : Input), w.os = os ∧ (w.forCall tape i).Shaped C.prog ∧ i.vars = [] ∧ Input.okWide C.prog (w.forCall tape i) .any w.heap.size f i ∧
      ((s.pre enc C.prog fn conds apart (w.forCall tape i).memory i.args∧X (w.forCall tape i).memory i.args)∧sizedMet enc C.prog fn (OpenSpec.ofChange s) apart (w.forCall tape i).memory i.args)∧a.holds C.prog (lone (Frame.enter C.prog f i.args .normal) [] (w.forCall tape i)))
    (contract : ∀ (W : World) (base : Nat) (args : Array Value) (ds gs : List (DataW H)) (before : List MemPlace),
      (∀ (j:Nat) t v,fn.params[j]? = some t→args[j]? = some v→Value.okWide C.prog W .any base t v)→
      DataW.Whole enc C.prog fn.params.toList s.vars apart W args.toList ds gs before→
      conds.all (PathCond.test C.prog ⟨fn.params.toList,ds,s.plain.varTypes C.prog,gs⟩)=true→
      (DataW.weightsEach C.prog (fn.params.toList ++ s.plain.varTypes C.prog) (ds ++ gs)).all (·≤reachBytes)=true→X W args→W.ShapedOpen C.prog→
      a.holds C.prog (lone (Frame.enter C.prog f args .normal) [] W)→
      Calls C.prog f args W fun e W'=>∃ v,e = .returned v∧s.post enc C.prog fn apart fresh handsOn again W args v W') :
    ReturnsInHanded a C os f .any (fun w args=>(s.pre enc C.prog fn conds apart w args∧X w args)∧sizedMet enc C.prog fn (OpenSpec.ofChange s) apart w args) (s.post enc C.prog fn apart fresh handsOn again):=by
 refine returnsInHanded_of_calls own started noInit witness ?_;intro w tape i _ hsh _ hok hpre hholds;obtain⟨_,_,_,fn',hfn',_,_,_,_,hval⟩:=hok;have e:fn'=fn:=dY (hfn'.symm.trans hfn);subst e;obtain⟨⟨⟨ds,gs,before,hw,hc⟩,hx⟩,hz⟩:=hpre;have hw':=DataW.Whole.of_heap (w':=w.forCall tape i) (by rfl) hw;refine(contract (w.forCall tape i) w.heap.size i.args ds gs before hval hw' hc (hz.weights hw) (hX _ _ _ (by rfl) hx) hsh hholds).mono fun e W' ⟨v,he,hp⟩=>?_
 subst he;exact ChangeSpec.post_blind hp
end Go
namespace Go.Am
open Go.ChangeShapes Go.WideShapes
def VF (W:World) (g:Nat) (cs:List AV):Prop:=(∃ c e f,W.heap[g]? = some (.cells c e f)∧c.size=cs.length)∧∀ j x,cs[j]? = some x→∃ v,W.cell? ⟨g,j,none⟩=some v∧∀ φ,VRel φ x v
theorem VF.push {W:World} {φ:Emb} {h:AHeap} (im:Imp W φ h) {g:Nat} {cs:List AV} (v:VF W g cs) (p0:Nat):Imp W (fun b=>if b=h.next then some (g,0,cs.length) else φ b) (h.push (.cells none p0 cs))∧φ.le (fun b=>if b=h.next then some (g,0,cs.length) else φ b):=by
 refine im.pushP p0 cs _ ?_;intro k i z hq;cases hq;obtain⟨⟨c,e,f,h1,h2⟩,h3⟩:=v;refine⟨(Array.getElem?_eq_some_iff.1 h1).1,fun j x hx=>?_,fun _=>⟨rfl,c,e,f,h1,h2⟩⟩;obtain⟨v,h4,h5⟩:=h3 j x hx;exact⟨v,by rw[Nat.zero_add]; exact h4,h5 _⟩
theorem Imp.none {W:World} {φ:Emb} {h:AHeap} (im:Imp W φ h):Imp W (fun b=>if b=h.next then .none else φ b) (h.push (.cells .none 0 [])):=(im.push [] .none (by intro k i z hq; cases hq)).1
theorem Imp.vars {W:World} {a b c:List AV} (ha:VF W 0 a) (hc:VF W 1 c) (hb:VF W 4 b):∃ φ h,Imp W φ h∧(h.globs.contains 0=true∧Rd h (.ptr 0 0) 0 a)∧VarAt h 4 b∧VarAt h 1 c:=by
 have im:=(VF.push ((VF.push ((VF.push (Imp.empty W) ha 0).1) hc 1).1.none).none hb 1).1;refine⟨_,⟨_,_,[0,1,4]⟩,⟨⟨?_,im.rel.lt,im.rel.blk,im.rel.arr,im.rel.one,im.rel.sep,im.rel.map,im.rel.ext⟩,im.ro,im.out⟩,⟨rfl,.inr (.inl ⟨0,0,.none,0,a,.inr ⟨rfl,rfl⟩,rfl,rfl,by rw[List.drop_zero,List.take_length]⟩)⟩,⟨rfl,rfl⟩,rfl,rfl⟩;intro g hg;have hg:g=0∨g=1∨g=4:=by simpa using hg
 rcases hg with rfl|rfl|rfl
 exact⟨a.length,rfl⟩;exact⟨c.length,rfl⟩;exact⟨b.length,rfl⟩
def laidL:List (String × DataW Unit):=[("math/bits.deBruijn32tab",Go.Proofs.YtdfhmdhjeiipfaaGreatDoor.Rows.laid_math_bits_deBruijn32tab),("math/bits.deBruijn64tab",Go.Proofs.YtdfhmdhjeiipfaaGreatDoor.Rows.laid_math_bits_deBruijn64tab),("internal/strconv.uint64pow10",Go.Proofs.YtdfhmdhjeiipfaaGreatDoor.Rows.laid_internal_strconv_uint64pow10),("unicode/utf8.acceptRanges",Go.Proofs.YtdfhmdhjeiipfaaGreatDoor.Rows.laid_unicode_utf8_acceptRanges),("spadille/stamp.sizes",Go.Proofs.YtdfhmdhjeiipfaaGreatDoor.Rows.laid_spadille_stamp_sizes),("unicode/utf8.first",Go.Proofs.YtdfhmdhjeiipfaaGreatDoor.Rows.laid_unicode_utf8_first)]
def litI : DataW Unit → Option Int
  | .lit (.int _ n)=>some n
  | _=>none
def aggL : DataW Unit → List (DataW Unit)
  | .agg l=>l
  | _=>[]
def sizeL:List Int:=(List.range 64).map fun s=>((Kz s 6).length:Int)
def powL:List Int:=Lib.pow10Tab
theorem sizes_lits:(aggL Go.Proofs.YtdfhmdhjeiipfaaGreatDoor.Rows.laid_spadille_stamp_sizes).map litI=sizeL.map some:=by decide +kernel
theorem pow_lits:(aggL Go.Proofs.YtdfhmdhjeiipfaaGreatDoor.Rows.laid_internal_strconv_uint64pow10).map litI=powL.map some:=by decide +kernel
theorem UO {W : World} {l : List Int} {lay : DataW Unit} {k : IntKind} {g t et n : Nat} {nm : String} {cs : Array Value} {f : Nat} {p : List MemPlace}
    (hU:Go.Proofs.Tryz.prog.underlying t=some (.array n et)) (hE:Go.Proofs.Tryz.prog.underlying et=some (.int k)) (c1:Go.Proofs.Tryz.prog.cellsOf et=1) (c2:Go.Proofs.Tryz.prog.cellsOf t=l.length) (hn:n=l.length) (hlits:(aggL lay).map litI=l.map some)
    (hg0:Go.Proofs.Tryz.prog.globalNamed nm=some g) (hv0:W.var? Go.Proofs.Tryz.prog nm=some cs)
    (hd0:DataW.trod (fun _=>()) Go.Proofs.Tryz.prog W 0 (fun _=>true) false f t cs.toList=some (lay,p)) :
    VF W g (l.map fun v=>AV.int k v):=by
 obtain⟨xs,m,rfl,hx1,hl,hxl,hx⟩:=DataW.trod_array hU hd0;rw[c2] at hl;have hd:=(Prod.mk.inj hx1).1;have hxs:xs.map (fun x=>litI x.1)=l.map some:=by
  rw[←hlits,hd];show _=(xs.map (·.1)).map litI;rw[List.map_map]; rfl
 have key:∀ i (hi:i<l.length),cs.toList[i]? = some (.int k l[i]):=by
  intro i hi;have h2:=hx i aA;rw[c1,Nat.mul_one,dU aA] at h2;obtain⟨c,h3,h4,_⟩:=DataW.trod_int hE h2;have h5:((cs.toList.drop i).take 1)[0]? = some (.int k c):=by rw[h3]; rfl
  have h6:cs.toList[i]? = some (.int k c):=by simpa [List.getElem?_take,List.getElem?_drop] using h5
  have h7:=congrArg (fun l=>l[i]?) hxs;simp only[dN,dU (show i<xs.length by omega),dU hi,Option.map_some,Option.some.injEq] at h7;rw[h4] at h7;have h8:c=l[i]:=by simpa [litI] using h7
  rw[h6,h8]
 refine⟨?_,fun i x hx=>?_⟩;have hv:=hv0;simp only[World.var?,hg0,Option.bind_some] at hv;split at hv;rename_i c e f' he;cases hv;exact⟨_,_,_,he,by rw[dQ,←hl,Array.length_toList]⟩;cases hv;have hi:i<l.length:=by
  have:=(dP.1 hx).1;rwa [dQ] at this
 rw[dN,dU hi] at hx;cases hx;refine⟨.int k l[i],?_,fun φ=>.int _ _⟩;rw[World.var?_cell hg0 hv0 i,←Array.getElem?_toList];exact key i hi
theorem vf_int {W : World} {g : Nat} {t : TypeId} {k : IntKind} (h : W.ShapedOpen Go.Proofs.Tryz.prog) (hg : g < Go.Proofs.Tryz.prog.globals.size)
    (h0:((Go.begin Go.Proofs.Tryz.prog (fun _ _=>0) default).world.heap[g]?).bind Obj.row? = some (#[.int k 0],t))
    (hb:Go.Proofs.Tryz.prog.buildable t=true) (hc:Go.Proofs.Tryz.prog.cellTypes Go.Proofs.Tryz.prog.depth t=some [t]) (hu:Go.Proofs.Tryz.prog.underlying t=some (.int k)) :
    ∃ m,VF W g [.int k m]:=by
 obtain⟨m,hm⟩:=Go.Proofs.cell_of_shapedOpen_int h hg h0 rfl hb hc hu;obtain⟨cs,hh,hs,_⟩:=h.1 g _ t hg h0;refine⟨m,⟨cs,_,_,hh,hs⟩,fun j x hx=>?_⟩;have hj:j=0:=by
  have:=(dP.1 hx).1;simpa using this
 subst hj;cases hx;exact⟨_,hm,fun φ=>.int _ _⟩
theorem vs_laid {W:World} (h:laidMetH Go.Proofs.Tryz.prog laidL W) (hs:W.ShapedOpen Go.Proofs.Tryz.prog):∃ φ hp,Imp W φ hp∧Vs hp:=by
 rw[MakeChecks.laidMetH_plain _ _ _ aC] at h;obtain⟨ps,⟨g0,t0,cs0,f0,p0,q0,hg0,ht0,hv0,hd0,⟨g1,t1,cs1,f1,p1,q1,hg1,ht1,hv1,hd1,⟨g2,t2,cs2,f2,p2,q2,hg2,ht2,hv2,hd2,⟨g3,t3,cs3,f3,p3,q3,hg3,ht3,hv3,hd3,⟨g4,t4,cs4,f4,p4,q4,hg4,ht4,hv4,hd4,⟨g5,t5,cs5,f5,p5,q5,hg5,ht5,hv5,hd5,_,_⟩,_⟩,_⟩,_⟩,_⟩,_⟩,_,_⟩:=h;obtain rfl:=dY ((show Go.Proofs.Tryz.prog.globalNamed "internal/strconv.uint64pow10" = some 1 by kernel_rfl).symm.trans hg2);obtain rfl:=dY ((show(Go.Proofs.Tryz.prog.globals[1]?).map (·.type)=some 249 by kernel_rfl).symm.trans ht2);obtain rfl:=dY ((show Go.Proofs.Tryz.prog.globalNamed "spadille/stamp.sizes" = some 0 by kernel_rfl).symm.trans hg4);obtain rfl:=dY ((show(Go.Proofs.Tryz.prog.globals[0]?).map (·.type)=some 176 by kernel_rfl).symm.trans ht4);have a0:=UO Go.Proofs.Tryz.underlying176 Go.Proofs.Tryz.underlying175 aC (show _=sizeL.length by kernel_rfl) rfl sizes_lits hg4 hv4 hd4;have a1:=UO Go.Proofs.Tryz.underlying249 Go.Proofs.Tryz.underlying209 aC (show _=powL.length by kernel_rfl) rfl pow_lits hg2 hv2 hd2;obtain⟨m,a4⟩:=vf_int (g:=4) (t:=3) (k:=.i64) hs (of_decide_eq_true aC) aC aC aC Go.Proofs.Tryz.underlying3;have e0:J2=sizeL.map fun v=>AV.int .i8 v:=by rw[J2,sizeL,List.map_map]; rfl
 rw[←e0] at a0;obtain⟨φ,hp,im,h0,h3,h4⟩:=Imp.vars a0 a1 a4;exact⟨φ,hp,im,h0,⟨m,h3⟩,h4⟩
def q4Of (l:List Int):Q4:=⟨l.getD 0 0,l.getD 1 0,l.getD 2 0,l.getD 3 0⟩
theorem q4_of {l:List Int} (h:l.length=4):l.map (AV.int .u8)=q4 (q4Of l):=by
 match l,h with
 | [a,b,c,d],_=>rfl
theorem q4Of_ok {l:List Int} (h:l.length=4) (hw:∀ x∈l,(Lit.int .u8 x).wf=true):(q4Of l).Ok:=by
 match l,h with
 | [a,b,c,d],_=>
  have h1:=Ut (hw a aN);have h2:=Ut (hw b aN);have h3:=Ut (hw c aN);have h4:=Ut (hw d aN);exact⟨h1.1,h1.2,h2.1,h2.2,h3.1,h3.2,h4.1,h4.2⟩
theorem rows_q4 {h:AHeap}:∀ {rows:List (List AV)} {xs:List (List Int)},rows.length=xs.length→(∀ (i:Nat) (r:List AV) (x:List Int),rows[i]? = some r→xs[i]? = some x→r.length=4∧EArr .u8 4 h r x)→rows.flatten=flr q4 (xs.map q4Of)∧∀ i,i<(xs.map q4Of).length→((xs.map q4Of).getD i default).Ok:=by
 intro rows
 induction rows with
 | nil=>intro xs hl _; rw[List.length_eq_zero_iff.1 hl.symm]; exact⟨rfl,fun i hi=>absurd hi (Nat.not_lt_zero _)⟩
 | cons r rows ih=>
  intro xs hl hx
  cases xs with
  | nil=>cases hl
  | cons x xs=>
   obtain⟨_,h1,h2,h3⟩:=hx 0 r x rfl rfl;have ih2:=ih ap (fun i r y hr hy=>hx (i+1) r y (by simpa using hr) a8);refine⟨?_,?_⟩;rw[List.flatten_cons,ih2.1,h1,q4_of h2];rfl
   ·intro i hi
    cases i with
    | zero=>exact q4Of_ok h2 h3
    | succ i=>exact ih2.2 i ae
theorem quads_of {h:AHeap} {av:AV} {x:List (List Int)} (hE:ESl 4 (EArr .u8 4) h [av] x):∃ hs:List Q4,Rd h av 4 (flr q4 hs)∧∀ i,i<hs.length→(hs.getD i default).Ok:=by
 obtain⟨v,rows,h2,h3,h4,h5⟩:=hE;cases h2;have h6:=rows_q4 h4 h5;exact⟨x.map q4Of,by rw[←h6.1]; exact h3,h6.2⟩
section
open Go.Proofs.Tryz
theorem ic_quads {H:Type} {enc:TypeId × Value→H}:IC enc Go.Proofs.Tryz.prog 45 (ESl 4 (EArr .u8 4)):=
  IC.slice (s:=4) Go.Proofs.Tryz.underlying45 aC aE (IC.array Go.Proofs.Tryz.underlying22 aC aC Go.Proofs.Tryz.underlying5)
end
theorem law_booked {h:AHeap} {a:Int} {vH:AV} {hs:List Q4} (hw:(Lit.int .u8 a).wf=true) (hv:Rd h vH 4 (flr q4 hs)) (hx:∀ i,i<hs.length→(hs.getD i default).Ok) (hV:Vs h):ACalls Go.Proofs.Tryz.prog 6 [.int .u8 a,vH] h (fun q _=>q = .bool true):=
  booked_c hv (Ut hw).1 (Ut hw).2 hx hV
end Go.Am
