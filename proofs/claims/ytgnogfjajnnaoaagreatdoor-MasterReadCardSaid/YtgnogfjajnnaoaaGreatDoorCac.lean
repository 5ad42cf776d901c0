/-
  Layer 14: lines by numbers.
  Conditions: none.
-/
import Derived.Test.YtgnogfjajnnaoaaGreatDoorCz
import Derived.Test.YtgnogfjajnnaoaaGreatDoorCn
import Derived.Lib.ConvBytes
import Derived.Laws.BytesString
open Array renaming getElem?_toList → dD, length_toList → dZ
open ByteArray renaming mk → dN
open Go.Lib renaming bytesCells → dC, itoa_length_le → dK, bytesWorld → dM, itoa → dR
open Int renaming tmod_eq_emod_of_nonneg → dF
open List renaming set_cons_zero → dE, set_cons_succ → dI, append_assoc → dO, getD_eq_getElem?_getD → dG, length_map → dJ, length_append → dL, getElem?_append_right → dP, getElem?_map → dQ, length_eq_zero_iff → dS, nil_append → dT, take_of_length_le → dV, mem_of_getElem? → dX, length_cons → fE
open Nat renaming zero_add → dU, le_of_ble_eq_true → dY, zero_le → dH, le_refl → dW, le_trans → fA
set_option maxRecDepth 99999
set_option maxHeartbeats 4000000
namespace Go.Am
def roomsL:List Str:=[[116,97,120],[112,114,101,115,115],[112,97,99,107,115]]
def waysL:List Str:=[[105,110],[111,117,116],[104,111,109,101],[108,111,115,116],[109,111,114,101]]
def XC:List Str:=[[114,111,111,109,32,116,97,120],[114,111,111,109,32,112,114,101,115,115],[114,111,111,109,32,112,97,99,107,115],[119,97,121,32,105,110,32,116,97,120,32,112,114,101,115,115],[119,97,121,32,111,117,116,32,112,114,101,115,115,32,112,97,99,107,115],[119,97,121,32,104,111,109,101,32,112,97,99,107,115,32,116,97,120]]
def Zb (l:List Str) (n:Nat):Str:=l.getD (n % l.length) []
structure Q4 where
  a:Nat
  b:Nat
  c:Nat
  d:Nat
instance:Inhabited Q4:=⟨⟨0,0,0,0⟩⟩
def qc (q:Q4):List AV:=[.int .u8 (q.a:Int),.int .u8 (q.b:Int),.int .u8 (q.c:Int),.int .u8 (q.d:Int)]
theorem qc_len (q:Q4):(qc q).length=4:=rfl
def Q4.Ok (q:Q4):Prop:=q.a<256∧q.b<256∧q.c<256∧q.d<256
def yW (q:Q4):Str:=Zb waysL q.b
def yN (q:Q4):Str:=dR ((q.c % 10:Nat):Int)
def yP (q:Q4):Str:=dR ((1+q.c % 5:Nat):Int)
def K7 (undo:Bool) (q:Q4):Str:=
  let k:=q.a % 16
  if k<3 then [108,101,97,115,116,32] ++ yW q ++ [32] ++ yN q
  else if k<6 then [109,111,115,116,32] ++ yW q ++ [32] ++ yN q
  else if k<8 then [112,97,99,107,32] ++ yP q ++ [32] ++ yW q
  else if k=8 then Zb [[115,101,97,108,32],[98,117,114,110,32]] q.d ++ yP q
  else if k=9 then Zb [[100,101,97,108,32],[98,97,99,107,32]] q.d ++ yP q
  else if k<12 then [99,108,97,105,109,32] ++ yW q ++ [32] ++ yN q
  else if k=12 then [102,114,101,101,32] ++ yW q
  else if k<15 then [119,97,121,32] ++ yW q ++ [32] ++ Zb roomsL q.c ++ [32] ++ Zb roomsL q.d
  else if undo then [117,110,100,111] else [114,111,111,109,32] ++ Zb [[118,97,117,108,116],[116,97,98,108,101]] q.d
def Xo (undo:Bool) (y:List Q4):List Str:=XC ++ (y.take 24).map (K7 undo)
instance:ArT Go.Proofs.Tryz.prog 87 4:=ArT.of aD
theorem tm (a:Nat) (b:Nat):(a:Int).tmod (b:Int)=((a % b:Nat):Int):=by rw[dF aA]; rfl
theorem tm10 (a:Nat):(a:Int).tmod 10=((a % 10:Nat):Int):=tm a 10
theorem tm5 (a:Nat):(a:Int).tmod 5=((a % 5:Nat):Int):=tm a 5
theorem tm16 (a:Nat):(a:Int).tmod 16=((a % 16:Nat):Int):=tm a 16
theorem tm2 (a:Nat):(a:Int).tmod 2=((a % 2:Nat):Int):=tm a 2
theorem getD_memQ {l:List Q4} {i:Nat} (h:i<l.length):l.getD i default∈l:=by
 rw[dG,List.getElem?_eq_getElem h]; exact List.getElem_mem h
theorem ZQ {y:List Q4} {f:Q4→Str} {B:List Str} {i:Nat} (h:i<y.length):B ++ ((y.take i).map f ++ [f (y.getD i default)])=B ++ (y.take (i+1)).map f:=by
 rw[←Xx (d:=default) h,List.map_append]; rfl
theorem QI {l:List Str} {n m:Nat} (h:∀ x∈l,x.length≤m):(Zb l n).length≤m:=by
 unfold Zb;rw[dG]
 cases hx:l[n % l.length]? with
 | none=>exact dH _
 | some w=>exact h w (dX hx)
theorem Rg {h:AHeap}:ACalls Go.Proofs.Tryz.prog 40 [] h (fun q h'=>St h h' [⟨q,1,wcs roomsL,true⟩]):=by
 refine OH 3 [.tmp 0] Go.Proofs.Tryz.func40 rfl aE rfl rfl (dY rfl) ?_;have hS:=St.refl h;show KA _ 3 _ _ [] _;refine Oa [] ?_;refine Ot ?_;refine bl ?_;intro v1 h' hS;refine Oj rfl (ZA) ?_;rintro _ _ ⟨rfl,rfl⟩;refine Oa [0] ?_;refine Oi ?_;exact hS
theorem yways_c {h:AHeap}:ACalls Go.Proofs.Tryz.prog 42 [] h (fun q h'=>St h h' [⟨q,1,wcs waysL,true⟩]):=by
 refine OH 3 [.tmp 0] Go.Proofs.Tryz.func42 rfl aE rfl rfl (dY rfl) ?_;have hS:=St.refl h;show KA _ 3 _ _ [] _;refine Oa [] ?_;refine Ot ?_;refine bl ?_;intro v1 h' hS;refine Oj rfl (ZA) ?_;rintro _ _ ⟨rfl,rfl⟩;refine Oa [0] ?_;refine Oi ?_;exact hS
theorem one_c {h:AHeap} {v:AV} {l:List Str} {n:Nat} (hv:WRow h v l) (h0 : 0<l.length) (hl:l.length≤100) (hn:n<256):ACalls Go.Proofs.Tryz.prog 57 [v,.int .u8 (n:Int)] h (fun q h'=>q = .str (wd (Zb l n))∧h=h'):=by
 refine OH 13 [.tmp 4] Go.Proofs.Tryz.func57 rfl aE rfl rfl (dY rfl) ?_;have hrm:((n:Int)).tmod (l.length:Int)=((n % l.length:Nat):Int):=by rw[dF aA]; rfl
 have hlt:=Nat.mod_lt n h0;show KA _ 13 _ _ [(0,v),(1,.int .u8 (n:Int))] _;refine bf ?_;refine ZF aA aA ?_;refine Od ?_;refine OZ hv ?_;refine KOps.rem aC aC aC ?_;rw[hrm];refine Ow hv (j:=n % l.length) aC aB ?_;intro p11 hp11;refine OY hp11 hv aB ?_;refine bV ?_;exact⟨rfl,rfl⟩
theorem yLines_c {h:AHeap} {v:AV} {y:List Q4} {undo:Bool} (hv:Rd h v 4 (flr qc y)) (hy:∀ q∈y,q.Ok) (hV:Vs h):ACalls Go.Proofs.Tryz.prog 38 [v,.bool undo] h (fun q h'=>St h h' [⟨q,1,wcs (Xo undo y),true⟩]):=by
 refine OH 159 [.tmp 4] Go.Proofs.Tryz.func38 rfl aE rfl rfl (dY rfl) ?_;have hS:=St.refl h;show KA _ 159 _ _ [(0,v),(1,.bool undo)] _;refine Ot ?_;refine On ?_;refine Om [0,1] ?_;refine Ot ?_;refine bl ?_;intro v11 h' hS;refine Oj rfl (ZA) ?_;rintro r12 _ ⟨rfl,rfl⟩;refine On ?_;refine Om [0,1,5] ?_;refine Ov ?_;refine bd ?_;refine Zd qc_len (Rd.ext hS.keeps hv) ?_;refine Od ?_;refine Om [1,5,13,14,15] ?_;refine Oz ?_;refine Kd (X:=Nat × AV) (fun x=>[(1,.bool undo),(5,x.2),(13,v),(14,.int .i64 (y.length:Int)),(15,.int .i64 (x.1:Int))]) (fun x h'=>x.1≤y.length∧x.1≤24∧St h h' [⟨x.2,1,wcs (XC ++ (y.take x.1).map (K7 undo)),true⟩]) (fun x=>y.length - x.1) (0,r12) ?_ ?_;exact⟨dH _,dH _,hS⟩;rintro⟨i,v5⟩ h3 ⟨hi,hi2,hS⟩;dsimp only at hi hi2 hS⊢;have hlb:(XC ++ (y.take i).map (K7 undo)).length≤30:=by simp[XC]; omega
 refine Ot ?_;refine Qn ?_;refine br ?_;refine Oo ?_ ?_
 ·intro c16;have hlt:i<y.length:=by omega
  have hq:=hy _ (getD_memQ hlt);obtain⟨hqa,hqb,hqc,hqd⟩:=id hq;have t10:=tm10 (y.getD i default).c;have t5:=tm5 (y.getD i default).c;have t16:=tm16 (y.getD i default).a;have t2:=tm2 (y.getD i default).d;obtain⟨sw,hsw⟩:∃ s:Str,s=Zb waysL (y.getD i default).b:=⟨_,rfl⟩;have hlw:sw.length≤4:=hsw ▸ QI aE;obtain⟨sn,hsn⟩:∃ s:Str,s=dR (((y.getD i default).c % 10:Nat):Int):=⟨_,rfl⟩;have hln:sn.length≤21:=hsn ▸ dK _ aA aA;obtain⟨sp,hsp⟩:∃ s:Str,s=dR (1+(((y.getD i default).c % 5:Nat):Int)):=⟨_,rfl⟩;have hlp:sp.length≤21:=hsp ▸ dK _ aA aA;obtain⟨sr,hsr⟩:∃ s:Str,s=Zb roomsL (y.getD i default).c:=⟨_,rfl⟩;have hlr:sr.length≤5:=hsr ▸ QI aE;obtain⟨ss,hss⟩:∃ s:Str,s=Zb roomsL (y.getD i default).d:=⟨_,rfl⟩;have hls:ss.length≤5:=hss ▸ QI aE;obtain⟨sv,hsv⟩:∃ s:Str,s=Zb [[118,97,117,108,116],[116,97,98,108,101]] (y.getD i default).d:=⟨_,rfl⟩;have hlv:sv.length≤5:=hsv ▸ QI aE;obtain⟨se,hse⟩:∃ s:Str,s = [[115,101,97,108,32],[98,117,114,110,32]].getD ((y.getD i default).d % 2) []:=⟨_,rfl⟩;have hle:se.length≤5:=hse ▸ QI aE;obtain⟨sd,hsd⟩:∃ s:Str,s = [[100,101,97,108,32],[98,97,99,107,32]].getD ((y.getD i default).d % 2) []:=⟨_,rfl⟩;have hld:sd.length≤5:=hsd ▸ QI aE;refine Oy [1,5,13,14,15] ?_;refine bj ?_;refine bd ?_;refine Qj qc_len (Rd.ext hS.keeps hv) (j:=i) rfl aB ?_;intro p18 hp18;refine Qk qc_len aE hp18 (Rd.ext hS.keeps hv) aB ?_;refine Kx hS ?_;intro p7 h' hp7 hS;refine On ?_;refine KC hS rfl (i:=0) rfl hp7 aG aN aN aE ?_;intro h' hS;simp only[dE,dI,dU] at hS;refine Om [1,5,6,7,13,14,15] ?_;refine Ov ?_;refine bd ?_;refine KOps.geq ?_;refine Om [1,5,7,13,14,15,21] ?_;refine Oo ?_ ?_;intro c21;refine Kc ?_;refine OV ?_;refine blQ.exit rfl ?_;refine OV ?_;refine O8 ?_;refine O2 ?_;refine Oe ?_;refine Ou [5] ?_;refine bd ?_;refine On ?_;refine Om [4] ?_;refine Qa ?_;refine fnQ.ret1 ?_;have hi24:i=24:=by omega
  subst hi24;exact St.drop (A:=[_]) hS
  ·intro c21;refine Oy [1,5,7,13,14,15] ?_;refine Ov ?_;refine ON [0,3] mixed rfl aD ?_;refine Kf ay (yways_c) ?_;rintro v22 h22 hS22;replace hS:St _ _ (_::_):=St.trans hS hS22;refine K9 hp7 (j:=1) rfl aE ?_;intro p23 hp23;refine Oh hp23 (hS.rd 1 rfl) rfl ?_;refine Kf aI (one_c (hS.rd 0 rfl) aE aE hq.2.1) ?_;rintro _ _ ⟨rfl,rfl⟩;rw[←hsw];refine On ?_;refine Om [1,5,7,8,13,14,15] ?_;refine Ov ?_;refine ON [4,10] mixed rfl aD ?_;refine K9 hp7 (j:=2) rfl aE ?_;intro p26 hp26;refine Oh hp26 (hS.rd 1 rfl) rfl ?_;refine ZF aA aA ?_;refine KOps.rem aC aC aC ?_;rw[t10];refine Kf aI (VR (hV.ext hS.keeps).pw aA aA) ?_;rintro _ _ ⟨rfl,rfl⟩;rw[←hsn];refine K9 hp7 (j:=2) rfl aE ?_;intro p31 hp31;refine Oh hp31 (hS.rd 1 rfl) rfl ?_;refine ZF aA aA ?_;refine KOps.rem aC aC aC ?_;rw[t5];refine Kn aC aC ?_;refine Kf aI (VR (hV.ext hS.keeps).pw aA aA) ?_;rintro _ _ ⟨rfl,rfl⟩;rw[←hsp];refine On ?_;refine On ?_;refine Om [1,5,7,8,9,10,13,14,15] ?_;refine Ot ?_;refine K9 hp7 (j:=0) rfl aE ?_;intro p37 hp37;refine Oh hp37 (hS.rd 1 rfl) rfl ?_;refine ZF aA aA ?_;refine KOps.rem aC aC aC ?_;refine Og ?_;rw[t16];refine Oe ?_;refine Ou [1,5,7,8,9,10,13,14,15,40] ?_;refine Oz ?_;refine KA.meet (X:=Unit) (fun _=>[(1,.bool undo),(5,v5),(7,p7),(8,.str (wd sw)),(9,.str (wd sn)),(10,.str (wd sp)),(13,v),(14,.int .i64 (y.length:Int)),(15,.int .i64 (i:Int)),(40,.int .i64 (((y.getD i default).a % 16:Nat):Int)),(54,.bool (decide ((y.getD i default).a % 16<3)))]) (fun _ h'=>St h h' [⟨p7,0,qc (y.getD i default),true⟩,⟨v5,1,wcs (XC ++ (y.take i).map (K7 undo)),true⟩]) ?_ ?_
   ·
     refine cN ?_;refine Om [1,5,7,8,9,10,13,14,15,40,54] ?_;refine Oo ?_ ?_
     · intro c54
       try have c54:=of_decide_eq_true c54
       refine Ox ?_;exact Qc () aF (St.drop (A:=[_]) hS)
     · intro c54
       try have c54:=of_decide_eq_false c54
       refine cN ?_;refine Om [1,5,7,8,9,10,13,14,15,40,54] ?_;refine Oo ?_ ?_
       · intro c54
         try have c54:=of_decide_eq_true c54
         refine Ox ?_;exact Qc () aF (St.drop (A:=[_]) hS)
       · intro c54
         try have c54:=of_decide_eq_false c54
         refine OI rfl ?_;refine KV ?_;refine cW ?_;exact Qc () aF (St.drop (A:=[_]) hS)
   ·
     rintro _ h9 hS;refine Kb ?_ ?_
     · intro c54
       try have c54:=of_decide_eq_true c54
       refine b9 ?_;intro v64 h' hS;refine KB hS (fun _=>rfl) (i:=1) rfl aB ?_;intro r65 h' hr65 hS;refine bW ?_;refine Og ?_
       try simp only[dE,dI,dU] at hS
       have e:K7 undo (y.getD i default) = [108,101,97,115,116,32] ++ sw ++ [32] ++ sn:=by
         rw[hsw,hsn];unfold K7;dsimp only;rw[if_pos c54]
         all_goals rfl
       rw[←e,dO,ZQ hlt] at hS;exact lpN (i+1,r65) ⟨by dsimp only; omega,by dsimp only; omega,St.drop (A:=[_]) hS⟩ aK
     · intro c54
       try have c54:=of_decide_eq_false c54
       refine KA.meet (X:=Unit) (fun _=>[(1,.bool undo),(5,v5),(7,p7),(8,.str (wd sw)),(9,.str (wd sn)),(10,.str (wd sp)),(13,v),(14,.int .i64 (y.length:Int)),(15,.int .i64 (i:Int)),(40,.int .i64 (((y.getD i default).a % 16:Nat):Int)),(66,.bool (decide ((y.getD i default).a % 16<6)))]) (fun _ h'=>St h h' [⟨p7,0,qc (y.getD i default),true⟩,⟨v5,1,wcs (XC ++ (y.take i).map (K7 undo)),true⟩]) ?_ ?_
       ·
         refine cN ?_;refine Om [1,5,7,8,9,10,13,14,15,40,66] ?_;refine Oo ?_ ?_
         · intro c66
           try have c66:=of_decide_eq_true c66
           refine Ox ?_;exact Qc () aF hS
         · intro c66
           try have c66:=of_decide_eq_false c66
           refine cN ?_;refine Om [1,5,7,8,9,10,13,14,15,40,66] ?_;refine Oo ?_ ?_
           · intro c66
             try have c66:=of_decide_eq_true c66
             refine Ox ?_;exact Qc () aF hS
           · intro c66
             try have c66:=of_decide_eq_false c66
             refine OI rfl ?_;refine KV ?_;refine cW ?_;exact Qc () aF hS
       ·
         rintro _ h9 hS;refine Kb ?_ ?_
         · intro c66
           try have c66:=of_decide_eq_true c66
           refine b9 ?_;intro v76 h' hS;refine KB hS (fun _=>rfl) (i:=1) rfl aB ?_;intro r77 h' hr77 hS;refine bW ?_;refine Og ?_
           try simp only[dE,dI,dU] at hS
           have e:K7 undo (y.getD i default) = [109,111,115,116,32] ++ sw ++ [32] ++ sn:=by
             rw[hsw,hsn];unfold K7;dsimp only;rw[if_neg c54,if_pos c66]
             all_goals rfl
           rw[←e,dO,ZQ hlt] at hS;exact lpN (i+1,r77) ⟨by dsimp only; omega,by dsimp only; omega,St.drop (A:=[_]) hS⟩ aK
         · intro c66
           try have c66:=of_decide_eq_false c66
           refine KA.meet (X:=Unit) (fun _=>[(1,.bool undo),(5,v5),(7,p7),(8,.str (wd sw)),(9,.str (wd sn)),(10,.str (wd sp)),(13,v),(14,.int .i64 (y.length:Int)),(15,.int .i64 (i:Int)),(40,.int .i64 (((y.getD i default).a % 16:Nat):Int)),(78,.bool (decide ((y.getD i default).a % 16<8)))]) (fun _ h'=>St h h' [⟨p7,0,qc (y.getD i default),true⟩,⟨v5,1,wcs (XC ++ (y.take i).map (K7 undo)),true⟩]) ?_ ?_
           ·
             refine cN ?_;refine Om [1,5,7,8,9,10,13,14,15,40,78] ?_;refine Oo ?_ ?_
             · intro c78
               try have c78:=of_decide_eq_true c78
               refine Ox ?_;exact Qc () aF hS
             · intro c78
               try have c78:=of_decide_eq_false c78
               refine OI rfl ?_;refine KV ?_;refine cW ?_;exact Qc () aF hS
           ·
             rintro _ h9 hS;refine Kb ?_ ?_
             · intro c78
               try have c78:=of_decide_eq_true c78
               refine b9 ?_;intro v87 h' hS;refine KB hS (fun _=>rfl) (i:=1) rfl aB ?_;intro r88 h' hr88 hS;refine bW ?_;refine Og ?_
               try simp only[dE,dI,dU] at hS
               have e:K7 undo (y.getD i default) = [112,97,99,107,32] ++ sp ++ [32] ++ sw:=by
                 rw[hsp,hsw];unfold K7;dsimp only;rw[if_neg c54,if_neg c66,if_pos c78]
                 all_goals rfl
               rw[←e,dO,ZQ hlt] at hS;exact lpN (i+1,r88) ⟨by dsimp only; omega,by dsimp only; omega,St.drop (A:=[_]) hS⟩ aK
             · intro c78
               try have c78:=of_decide_eq_false c78
               refine cN ?_;refine Om [1,5,7,8,9,10,13,14,15,40,89] ?_;refine Oo ?_ ?_
               · intro c89;refine ON [2,12] mixed rfl aD ?_;refine Od ?_;refine bl ?_;intro v92 h' hS;refine Kf aI (ZA) ?_;rintro r93 _ ⟨rfl,rfl⟩;replace hS:St _ _ (⟨r93,1,wcs [[115,101,97,108,32],[98,117,114,110,32]],true⟩::_):=hS;refine K9 hp7 (j:=3) rfl aE ?_;intro p94 hp94;refine Oh hp94 (hS.rd 1 rfl) rfl ?_;refine ZF aA aA ?_;refine KOps.rem aC aC aC ?_;rw[t2];refine Ow (hS.rd 0 rfl) (j:=_) rfl aB ?_;intro p98 hp98;refine OY hp98 (hS.rd 0 rfl) aB ?_;rw[←hse];refine Od ?_;refine Kt aB ?_;refine bl ?_;intro v102 h' hS;refine KB hS (fun _=>rfl) (i:=2) rfl aB ?_;intro r103 h' hr103 hS;refine bW ?_;refine Og ?_
                 try simp only[dE,dI,dU] at hS
                 have e:K7 undo (y.getD i default)=se ++ sp:=by
                   rw[hse,hsp];unfold K7;dsimp only;rw[if_neg c54,if_neg c66,if_neg c78,if_pos aA]
                   all_goals rfl
                 rw[←e,dO,ZQ hlt] at hS;exact lpN (i+1,r103) ⟨by dsimp only; omega,by dsimp only; omega,St.drop (A:=[_,_]) hS⟩ aK
               · intro c89;refine cN ?_;refine Om [1,5,7,8,9,10,13,14,15,40,104] ?_;refine Oo ?_ ?_
                 · intro c104;refine ON [2,12] mixed rfl aD ?_;refine Od ?_;refine bl ?_;intro v107 h' hS;refine Kf aI (ZA) ?_;rintro r108 _ ⟨rfl,rfl⟩;replace hS:St _ _ (⟨r108,1,wcs [[100,101,97,108,32],[98,97,99,107,32]],true⟩::_):=hS;refine K9 hp7 (j:=3) rfl aE ?_;intro p109 hp109;refine Oh hp109 (hS.rd 1 rfl) rfl ?_;refine ZF aA aA ?_;refine KOps.rem aC aC aC ?_;rw[t2];refine Ow (hS.rd 0 rfl) (j:=_) rfl aB ?_;intro p113 hp113;refine OY hp113 (hS.rd 0 rfl) aB ?_;rw[←hsd];refine Od ?_;refine Kt aB ?_;refine bl ?_;intro v117 h' hS;refine KB hS (fun _=>rfl) (i:=2) rfl aB ?_;intro r118 h' hr118 hS;refine bW ?_;refine Og ?_
                   try simp only[dE,dI,dU] at hS
                   have e:K7 undo (y.getD i default)=sd ++ sp:=by
                     rw[hsd,hsp];unfold K7;dsimp only;rw[if_neg c54,if_neg c66,if_neg c78,if_neg (fun x=>c89 aA),if_pos aA]
                     all_goals rfl
                   rw[←e,dO,ZQ hlt] at hS;exact lpN (i+1,r118) ⟨by dsimp only; omega,by dsimp only; omega,St.drop (A:=[_,_]) hS⟩ aK
                 · intro c104;refine KA.meet (X:=Unit) (fun _=>[(1,.bool undo),(5,v5),(7,p7),(8,.str (wd sw)),(9,.str (wd sn)),(13,v),(14,.int .i64 (y.length:Int)),(15,.int .i64 (i:Int)),(40,.int .i64 (((y.getD i default).a % 16:Nat):Int)),(119,.bool (decide ((y.getD i default).a % 16<12)))]) (fun _ h'=>St h h' [⟨p7,0,qc (y.getD i default),true⟩,⟨v5,1,wcs (XC ++ (y.take i).map (K7 undo)),true⟩]) ?_ ?_
                   ·
                     refine cN ?_;refine Om [1,5,7,8,9,13,14,15,40,119] ?_;refine Oo ?_ ?_
                     · intro c119
                       try have c119:=of_decide_eq_true c119
                       refine Ox ?_;exact Qc () aF hS
                     · intro c119
                       try have c119:=of_decide_eq_false c119
                       refine OI rfl ?_;refine KV ?_;refine cW ?_;exact Qc () aF hS
                   ·
                     rintro _ h9 hS;refine Kb ?_ ?_
                     · intro c119
                       try have c119:=of_decide_eq_true c119
                       refine b9 ?_;intro v128 h' hS;refine KB hS (fun _=>rfl) (i:=1) rfl aB ?_;intro r129 h' hr129 hS;refine bW ?_;refine Og ?_
                       try simp only[dE,dI,dU] at hS
                       have e:K7 undo (y.getD i default) = [99,108,97,105,109,32] ++ sw ++ [32] ++ sn:=by
                         rw[hsw,hsn];unfold K7;dsimp only;rw[if_neg c54,if_neg c66,if_neg c78,if_neg (fun x=>c89 aA),if_neg (fun x=>c104 aA),if_pos c119]
                         all_goals rfl
                       rw[←e,dO,ZQ hlt] at hS;exact lpN (i+1,r129) ⟨by dsimp only; omega,by dsimp only; omega,St.drop (A:=[_]) hS⟩ aK
                     · intro c119
                       try have c119:=of_decide_eq_false c119
                       refine cN ?_;refine Om [1,5,7,8,13,14,15,40,130] ?_;refine Oo ?_ ?_
                       · intro c130;refine OI rfl ?_;refine Od ?_;refine Od ?_;refine Kt aB ?_;refine bl ?_;intro v135 h' hS;refine KB hS (fun _=>rfl) (i:=1) rfl aB ?_;intro r136 h' hr136 hS;refine bW ?_;refine Og ?_
                         try simp only[dE,dI,dU] at hS
                         have e:K7 undo (y.getD i default) = [102,114,101,101,32] ++ sw:=by
                           rw[hsw];unfold K7;dsimp only;rw[if_neg c54,if_neg c66,if_neg c78,if_neg (fun x=>c89 aA),if_neg (fun x=>c104 aA),if_neg c119,if_pos aA]
                           all_goals rfl
                         rw[←e,dO,ZQ hlt] at hS;exact lpN (i+1,r136) ⟨by dsimp only; omega,by dsimp only; omega,St.drop (A:=[_]) hS⟩ aK
                       · intro c130;refine KA.meet (X:=Unit) (fun _=>[(1,.bool undo),(5,v5),(7,p7),(8,.str (wd sw)),(13,v),(14,.int .i64 (y.length:Int)),(15,.int .i64 (i:Int)),(137,.bool (decide ((y.getD i default).a % 16<15)))]) (fun _ h'=>St h h' [⟨p7,0,qc (y.getD i default),true⟩,⟨v5,1,wcs (XC ++ (y.take i).map (K7 undo)),true⟩]) ?_ ?_
                         ·
                           refine cN ?_;refine Om [1,5,7,8,13,14,15,40,137] ?_;refine Oo ?_ ?_
                           · intro c137
                             try have c137:=of_decide_eq_true c137
                             refine Ox ?_;exact Qc () aF hS
                           · intro c137
                             try have c137:=of_decide_eq_false c137
                             refine OI rfl ?_;refine KV ?_;refine cW ?_;exact Qc () aF hS
                         ·
                           rintro _ h9 hS;refine Kb ?_ ?_
                           · intro c137
                             try have c137:=of_decide_eq_true c137
                             refine ON [4,7,10,13,16] mixed rfl aD ?_;refine Od ?_;refine Od ?_;refine Kt aB ?_;refine Kt aB ?_;refine Kf ay (Rg) ?_;rintro v144 h144 hS144;replace hS:St _ _ (_::_):=St.trans hS hS144;refine K9 hp7 (j:=2) rfl aE ?_;intro p145 hp145;refine Oh hp145 (hS.rd 1 rfl) rfl ?_;refine Kf aI (one_c (hS.rd 0 rfl) aE aE hq.2.2.1) ?_;rintro _ _ ⟨rfl,rfl⟩;rw[←hsr];refine Kt aB ?_;refine Kt aB ?_;refine Kf ay (Rg) ?_;rintro v150 h150 hS150;replace hS:St _ _ (_::_):=St.trans hS hS150;refine K9 hp7 (j:=3) rfl aE ?_;intro p151 hp151;refine Oh hp151 (hS.rd 2 rfl) rfl ?_;refine Kf aI (one_c (hS.rd 0 rfl) aE aE hq.2.2.2) ?_;rintro _ _ ⟨rfl,rfl⟩;rw[←hss];refine Kt aB ?_;refine bl ?_;intro v155 h' hS;refine KB hS (fun _=>rfl) (i:=3) rfl aB ?_;intro r156 h' hr156 hS;refine bW ?_;refine Og ?_
                             try simp only[dE,dI,dU] at hS
                             have e:K7 undo (y.getD i default) = [119,97,121,32] ++ sw ++ [32] ++ sr ++ [32] ++ ss:=by
                               rw[hsw,hsr,hss];unfold K7;dsimp only;rw[if_neg c54,if_neg c66,if_neg c78,if_neg (fun x=>c89 aA),if_neg (fun x=>c104 aA),if_neg c119,if_neg (fun x=>c130 aA),if_pos c137]
                               all_goals rfl
                             rw[←e,dO,ZQ hlt] at hS;exact lpN (i+1,r156) ⟨by dsimp only; omega,by dsimp only; omega,St.drop (A:=[_,_,_]) hS⟩ aK
                           · intro c137
                             try have c137:=of_decide_eq_false c137
                             refine bd ?_;refine Om [1,5,7,13,14,15,41] ?_;refine Kb ?_ ?_
                             · intro c41;refine OI rfl ?_;refine Od ?_;refine bl ?_;intro v43 h' hS;refine KB hS (fun _=>rfl) (i:=1) rfl aB ?_;intro r44 h' hr44 hS;refine bW ?_;refine Og ?_
                               try simp only[dE,dI,dU] at hS
                               have e:K7 undo (y.getD i default) = [117,110,100,111]:=by
                                 unfold K7;dsimp only;rw[if_neg c54,if_neg c66,if_neg c78,if_neg (fun x=>c89 aA),if_neg (fun x=>c104 aA),if_neg c119,if_neg (fun x=>c130 aA),if_neg c137,if_pos c41]
                                 all_goals rfl
                               rw[←e,dO,ZQ hlt] at hS;exact lpN (i+1,r44) ⟨by dsimp only; omega,by dsimp only; omega,St.drop (A:=[_]) hS⟩ aK
                             · intro c41;refine ON [2,5,8] mixed rfl aD ?_;refine Od ?_;refine bl ?_;intro v46 h' hS;refine Kf aI (ZA) ?_;rintro r47 _ ⟨rfl,rfl⟩;replace hS:St _ _ (⟨r47,1,wcs [[118,97,117,108,116],[116,97,98,108,101]],true⟩::_):=hS;refine K9 hp7 (j:=3) rfl aE ?_;intro p48 hp48;refine Oh hp48 (hS.rd 1 rfl) rfl ?_;refine Kf aI (one_c (hS.rd 0 rfl) aE aE hq.2.2.2) ?_;rintro _ _ ⟨rfl,rfl⟩;rw[←hsv];refine Kt aB ?_;refine bl ?_;intro v52 h' hS;refine KB hS (fun _=>rfl) (i:=2) rfl aB ?_;intro r53 h' hr53 hS;refine bW ?_;refine Og ?_
                               try simp only[dE,dI,dU] at hS
                               have e:K7 undo (y.getD i default) = [114,111,111,109,32] ++ sv:=by
                                 rw[hsv];unfold K7;dsimp only;rw[if_neg c54,if_neg c66,if_neg c78,if_neg (fun x=>c89 aA),if_neg (fun x=>c104 aA),if_neg c119,if_neg (fun x=>c130 aA),if_neg c137,if_neg (by simp[c41])]
                                 all_goals rfl
                               rw[←e,dO,ZQ hlt] at hS;exact lpN (i+1,r53) ⟨by dsimp only; omega,by dsimp only; omega,St.drop (A:=[_,_]) hS⟩ aK
 intro c16;refine bQ ?_;refine Ou [5] ?_;refine bd ?_;refine On ?_;refine Om [4] ?_;refine Qa ?_;refine fnQ.ret1 ?_;have e:y.take i=y.take 24:=by rw[dV aA,dV aA]
 unfold Xo;rw[←e];exact hS
end Go.Am
namespace Go.Am
open Go.ChangeShapes Go.WideShapes
def qOf (l:List Int):Q4:=⟨(l.getD 0 0).toNat,(l.getD 1 0).toNat,(l.getD 2 0).toNat,(l.getD 3 0).toNat⟩
theorem J8 {x:Int} (h : 0≤x∧x≤255):∃ n:Nat,x=n∧n<256:=⟨x.toNat,by omega,by omega⟩
theorem qc_of {l:List Int} (h:l.length=4) (hw:∀ x∈l,(Lit.int .u8 x).wf=true):l.map (AV.int .u8)=qc (qOf l)∧(qOf l).Ok:=by
 match l,h with
 | [a,b,c,d],_=>
  obtain⟨a,rfl,ha⟩:=J8 (Un (hw a aV));obtain⟨b,rfl,hb⟩:=J8 (Un (hw b aV));obtain⟨c,rfl,hc⟩:=J8 (Un (hw c aV));obtain⟨d,rfl,hd⟩:=J8 (Un (hw d aV));exact⟨rfl,ha,hb,hc,hd⟩
theorem rows_year {h:AHeap}:∀ {rows:List (List AV)} {xs:List (List Int)},rows.length=xs.length→(∀ (i:Nat) (r:List AV) (x:List Int),rows[i]? = some r→xs[i]? = some x→r.length=4∧EArr .u8 4 h r x)→rows.flatten=flr qc (xs.map qOf)∧∀ q∈xs.map qOf,q.Ok:=by
 intro rows
 induction rows with
 | nil=>intro xs hl _; rw[dS.1 hl.symm]; exact⟨rfl,fun q hq=>by cases hq⟩
 | cons r rows ih=>
  intro xs hl hx
  cases xs with
  | nil=>cases hl
  | cons x xs=>
   obtain⟨_,h1,h2,h3⟩:=hx 0 r x rfl rfl;have ih2:=ih al (fun i r y hr hy=>hx (i+1) r y (by simpa using hr) az);obtain⟨h4,h5⟩:=qc_of h2 h3;refine⟨?_,?_⟩;rw[List.flatten_cons,ih2.1,h1,h4];rfl;intro q hq;rw[List.map_cons,List.mem_cons] at hq;rcases hq with rfl|hq
   exact h5;exact ih2.2 q hq
theorem year_of {h:AHeap} {av:AV} {x:List (List Int)} (hE:ESl 4 (EArr .u8 4) h [av] x):∃ ys:List Q4,Rd h av 4 (flr qc ys)∧∀ q∈ys,q.Ok:=by
 obtain⟨v,rows,h2,h3,h4,h5⟩:=hE;cases h2;have h6:=rows_year h4 h5;exact⟨x.map qOf,by rw[←h6.1]; exact h3,h6.2⟩
theorem ic_year {H:Type} {enc:TypeId × Value→H}:IC enc Go.Proofs.Tryz.prog 53 (ESl 4 (EArr .u8 4)):=
  IC.slice (s:=4) Go.Proofs.Tryz.underlying53 aD aE (IC.array Go.Proofs.Tryz.underlying87 aD aD Go.Proofs.Tryz.underlying5)
end Go.Am
namespace Go.Am
def YA:Str:=[117,110,100,111]
noncomputable def bkStep (ls:List Str) (x:Str):List Str:=if x=YA then ls.dropLast else doL ls x
noncomputable def Xl (xs : List Str) : Nat → List Str
  | 0=>[]
  | i+1=>bkStep (Xl xs i) (xs.getD i [])
noncomputable def VI (xs:List Str):List Str:=Xl xs xs.length
theorem Ut {ls:List Str} {x:Str} (h:x=YA):bkStep ls x=ls.dropLast:=if_pos h
theorem bk_do {ls:List Str} {x:Str} (h:¬ x=YA):bkStep ls x=doL ls x:=if_neg h
theorem sure_len {O:Off}:O.sureL.length≤O.ways.length:=by
 rw[Off.sureL,dJ]; exact List.length_filter_le _ _
theorem WF.pks_len {O:Off} (hW:WF O) (w:Str):(O.pks w).length≤99:=by
 unfold Off.pks
 cases hm:OB O.ways w with
 | none=>exact dH _
 | some l=>
  obtain⟨i,hi,h1,_⟩:=YW hm;exact hW.lp (w,l) (dX h1)
theorem Done.one {l:List Str} (hD:Done l):∀ i,i<l.length→O3 (l.take i) (l.getD i [])=0:=by
 induction hD with
 | nil=>intro i hi; cases hi
 | @snoc lines line h he ih=>
  intro i hi;by_cases hl:i<lines.length;rw[List.take_append_of_le_length (Nat.le_of_lt hl),Xr _ hl]; exact ih i hl;have:i=lines.length:=by rw[dL,List.length_singleton] at hi; omega
  subst this;rw[List.take_left',dG,List.getElem?_concat_length];exact he;rfl
section
variable {P:Program} {n:Nat} {ops:Array Oper} {ex:List Nat} {Q:KF→AHeap→Prop} {k:Nat} {os:List Oper} {K:KF} {h:AHeap} {d:Nat} {ty:TypeId} {pos:String} {after:Array Edge}
theorem KOps.wNeqV {t t':TypeId} {x y:Operand} {a b:Str} [hx:EvK h.globs n K x (.str (wd a))] [hy:EvK h.globs n K y (.str (wd b))] (he:a=b) (hk:KOps P n ops ex Q (k+1) os ((d,.bool false)::K) h):KOps P n ops ex Q k (⟨some d,.binOp .neq t x y t',ty,pos,after,none⟩::os) K h:=by
 refine KOps.wNeq ?_;rw[decide_eq_true he]; exact hk
end
theorem book_c {h:AHeap} {v:AV} {ls:List Str} (hv:WRow h v ls) (hl:ls.length≤1000000) (hx:∀ x∈ls,x.length≤1000000) (hV:Vs h):ACalls Go.Proofs.Tryz.prog 37 [v] h (fun b h'=>Bk h h' b (VI ls) []):=by
 refine OH 22 [.tmp 2] Go.Proofs.Tryz.func37 rfl aE rfl rfl (dY rfl) ?_;show KA _ 22 _ _ [(0,v)] _;refine Oa [0] ?_;refine Ot ?_;refine Oj rfl (new_c) ?_;rintro b h5 hB;have hvk:WRow h5 v ls:=by obtain⟨_,_,_,hS⟩:=hB; exact Rd.ext hS.keeps hv
 refine Oa [0,3] ?_;refine Oc ?_;refine OZ hvk ?_;refine Oa [3,7,8,9] ?_;refine Oz ?_;refine Kd (X:=Nat) (fun i=>[(3,b),(7,v),(8,.int .i64 (ls.length:Int)),(9,.int .i64 (i:Int))]) (fun i h'=>i≤ls.length∧Bk h h' b (Xl ls i) []) (fun i=>ls.length - i) 0 ?_ ?_;exact⟨dH _,hB⟩;rintro i h2 ⟨hi,hB⟩;have hvk:WRow h2 v ls:=by obtain⟨_,_,_,hS⟩:=hB; exact Rd.ext hS.keeps hv
 refine cM ?_;refine Oo ?_ ?_
 ·intro c10;have hlt:i<ls.length:=by omega
  obtain⟨vl,A,hb,hS⟩:=hB;have hds:∀ x∈Xl ls i,x.length≤1000000:=fun x hx=>fA (hb.done.small x hx) aA
  refine Oy [3,7,8,9] ?_;refine ct ?_;refine Ow hvk (j:=i) rfl aB ?_;intro p11 hp11;refine OY hp11 hvk aB ?_;refine Oa [3,5,7,8,9] ?_;refine Oa [3,5,7,8,9,14] ?_;refine Oo ?_ ?_;intro c14;refine Oc ?_;refine Oj rfl (undo_c hb hS hV hds) ?_;rintro _ h8 ⟨rfl,hB8⟩;refine bw ?_;refine Ou [3,7,8,9] ?_;refine bU ?_;exact lpN (i+1) ⟨by omega,by rw[Xl,Ut c14]; exact hB8⟩ aA;intro c14;refine Oc ?_;refine Oj rfl (Xj hb hS (hV.ext hS.keeps) (hx _ (getD_mem hlt))) ?_;rintro _ h8 ⟨rfl,hB8⟩;refine bw ?_;refine Ou [3,7,8,9] ?_;refine bU ?_;exact lpN (i+1) ⟨by omega,by rw[Xl,bk_do c14]; exact hB8⟩ aA
 intro c10;refine bQ ?_;refine Ou [3] ?_;refine bT ?_;have hie:i=ls.length:=by omega
 subst hie;exact hB
set_option synthInstance.maxSize 2000 in
set_option synthInstance.maxHeartbeats 200000 in
theorem same_c {h:AHeap} {b vl b2 vl2:AV} {A A2:OA} {lines:List Str} (r:RBk h b vl A lines) (r2:RBk h b2 vl2 A2 lines) (hV:Vs h):ACalls Go.Proofs.Tryz.prog 39 [b,b2] h (fun q h'=>q = .bool true∧Keeps h h'):=by
 refine OH 163 [.tmp 4] Go.Proofs.Tryz.func39 rfl aE rfl rfl (dY rfl) ?_;have hS:=St.refl h;have hw:=r.wf;have hr6:=hw.rooms;have hc1:=hw.claims;show KA _ 163 _ _ [(0,b),(1,b2)] _;refine Ot ?_;refine On ?_;refine Om [0,1] ?_;refine Ov ?_;refine bd ?_;refine Zu aD r.ad ?_;refine Od ?_;refine Of (dj:=28) rfl rfl ?_;refine Od ?_;refine Of (dj:=28) rfl rfl ?_;refine Zu aD r2.ad ?_;refine OG ?_;refine Od ?_;refine Of (dj:=32) rfl rfl ?_;refine Od ?_;refine Of (dj:=32) rfl rfl ?_;refine Oj rfl (Yg (r.ext hS.keeps) (hV.ext hS.keeps)) ?_;rintro _ _ ⟨rfl,rfl⟩;refine Of (dj:=32) rfl rfl ?_;refine Od ?_;refine Of (dj:=32) rfl rfl ?_;refine Oj rfl (Yg (r2.ext hS.keeps) (hV.ext hS.keeps)) ?_;rintro _ _ ⟨rfl,rfl⟩;refine Of (dj:=32) rfl rfl ?_;refine KOps.wNeqV rfl ?_;refine OG ?_;refine Od ?_;refine Of (dj:=39) rfl rfl ?_;refine Od ?_;refine Of (dj:=39) rfl rfl ?_;refine Oj rfl (JG (r.ext hS.keeps)) ?_;rintro v41 h41 hS41;replace hS:St _ _ (_::_):=St.trans hS hS41;refine Of (dj:=39) rfl rfl ?_;refine Od ?_;refine Of (dj:=39) rfl rfl ?_;refine Oj rfl (JG (r2.ext hS.keeps)) ?_;rintro v43 h43 hS43;replace hS:St _ _ (_::_):=St.trans hS hS43;refine Of (dj:=39) rfl rfl ?_;refine Oj rfl (Xy (hS.rd 1 rfl) (hS.rd 0 rfl) (by have:=r.done.wf.2.1; omega)) ?_;rintro _ _ ⟨rfl,rfl⟩;rw[decide_eq_true (show lines=lines from rfl)];refine Of (dj:=39) rfl rfl ?_;refine QE ?_;refine OG ?_;refine Od ?_;refine Of (dj:=47) rfl rfl ?_;refine Od ?_;refine Of (dj:=47) rfl rfl ?_;refine Oj rfl (JL (r.ext hS.keeps)) ?_;rintro v49 h49 hS49;replace hS:St _ _ (_::_):=St.trans hS hS49;refine Of (dj:=47) rfl rfl ?_;refine Od ?_;refine Of (dj:=47) rfl rfl ?_;refine Oj rfl (JL (r2.ext hS.keeps)) ?_;rintro v51 h51 hS51;replace hS:St _ _ (_::_):=St.trans hS hS51;refine Of (dj:=47) rfl rfl ?_;refine Oj rfl (Xy (hS.rd 1 rfl) (hS.rd 0 rfl) aA) ?_;rintro _ _ ⟨rfl,rfl⟩;rw[decide_eq_true (show(after lines).rooms=(after lines).rooms from rfl)];refine Of (dj:=47) rfl rfl ?_;refine QE ?_;refine OG ?_;refine Od ?_;refine Of (dj:=55) rfl rfl ?_;refine Od ?_;refine Of (dj:=55) rfl rfl ?_;refine Oj rfl (Ji (r.ext hS.keeps)) ?_;rintro v57 h57 hS57;replace hS:St _ _ (_::_):=St.trans hS hS57;refine Of (dj:=55) rfl rfl ?_;refine Od ?_;refine Of (dj:=55) rfl rfl ?_;refine Oj rfl (Ji (r2.ext hS.keeps)) ?_;rintro v59 h59 hS59;replace hS:St _ _ (_::_):=St.trans hS hS59;refine Of (dj:=55) rfl rfl ?_;refine Oj rfl (Xy (hS.rd 1 rfl) (hS.rd 0 rfl) (fA sure_len (fA hw.ways aA))) ?_;rintro _ _ ⟨rfl,rfl⟩;rw[decide_eq_true (show(after lines).sureL=(after lines).sureL from rfl)];refine Of (dj:=55) rfl rfl ?_;refine QE ?_;refine OG ?_;refine Om [0,1,62] ?_;refine OK ?_;refine Oy [0,1] ?_;refine bd ?_;refine Oj rfl (Uz (r.ext hS.keeps)) ?_;rintro _ h65 ⟨v65,rfl,hS65⟩;replace hS:St _ _ (_::_):=St.trans hS hS65;refine bh ?_;refine Om [0,1,5,6] ?_;refine bd ?_;refine Oj rfl (Uz (r2.ext hS.keeps)) ?_;rintro _ h70 ⟨v70,rfl,hS70⟩;replace hS:St _ _ (_::_):=St.trans hS hS70;refine bh ?_;refine Om [0,1,5,6,7,8] ?_;refine Ov ?_;refine cO ?_;refine Oj rfl (Xy (hS.rd 1 rfl) (hS.rd 0 rfl) aA) ?_;rintro _ _ ⟨rfl,rfl⟩;rw[decide_eq_true (show(after lines).claims=(after lines).claims from rfl)];refine QE ?_;refine cR ?_;refine Od ?_;refine Of (dj:=77) rfl rfl ?_;refine O9 rfl ?_;refine OG ?_;refine Om [0,1,81] ?_;refine OK ?_;refine Oy [0,1] ?_;refine b4 ?_;refine Oj rfl (yways_c) ?_;rintro v82 h82 hS82;replace hS:St _ _ (_::_):=St.trans hS hS82;refine OZ (hS.rd 0 rfl) ?_;refine Od ?_;refine Og ?_;refine Oe ?_;refine Oz ?_;refine Kd (X:=Nat) (fun i=>[(0,b),(1,b2),(82,v82),(83,.int .i64 5),(84,.int .i64 (i:Int))]) (fun i h'=>i≤5∧WRow h' v82 waysL∧Keeps h h') (fun i=>5 - i) 0 ?_ ?_;exact⟨dH _,hS.rd 0 rfl,hS.keeps⟩;rintro i h2 ⟨hi,hw82,hk2⟩;have hS:=St.refl h2;have r1:=r.ext hk2;have r3:=r2.ext hk2;refine Ot ?_;refine Qn ?_;refine br ?_;refine Oo ?_ ?_
 ·intro c85;have hlt:i<waysL.length:=by show i<5; omega
  refine Oy [0,1,82,83,84] ?_;refine ct ?_;refine Ow (Rd.ext hS.keeps hw82) (j:=i) rfl aB ?_;intro p86 hp86;refine OY hp86 (Rd.ext hS.keeps hw82) aB ?_;refine On ?_;refine Om [0,1,10,82,83,84] ?_;refine cO ?_;refine Oj rfl (JJ (w:=waysL.getD i []) (r1.ext hS.keeps)) ?_;rintro _ h91 ⟨v91,rfl,hS91⟩;replace hS:St _ _ (_::_):=St.trans hS hS91;refine bh ?_;refine Om [0,1,10,11,12,82,83,84] ?_;refine cO ?_;refine Oj rfl (JJ (w:=waysL.getD i []) (r3.ext hS.keeps)) ?_;rintro _ h97 ⟨v97,rfl,hS97⟩;replace hS:St _ _ (_::_):=St.trans hS hS97;refine bh ?_;refine Om [0,1,10,11,12,13,14,82,83,84] ?_;refine cO ?_;refine Oj rfl (UC (w:=waysL.getD i []) (r1.ext hS.keeps)) ?_;rintro _ h9 ⟨rfl,hK⟩;replace hS:St _ _ _:=St.trans hS (St.ofK hK)
  try simp only[dT] at hS
  unfold tup3;refine Od ?_;refine OJ ?_;refine OJ ?_;refine OJ ?_;refine On ?_;refine On ?_;refine On ?_;refine Om [0,1,10,11,12,13,14,15,16,17,82,83,84] ?_;refine cO ?_;refine Oj rfl (UC (w:=waysL.getD i []) (r3.ext hS.keeps)) ?_;rintro _ h9 ⟨rfl,hK⟩;replace hS:St _ _ _:=St.trans hS (St.ofK hK)
  try simp only[dT] at hS
  unfold tup3;refine Od ?_;refine OJ ?_;refine OJ ?_;refine OJ ?_;refine On ?_;refine On ?_;refine On ?_;refine Om [0,1,11,12,13,14,15,16,17,18,19,20,82,83,84] ?_;refine cO ?_;refine Oj rfl (numbers_c (hS.rd 1 rfl) (hS.rd 0 rfl) (by have:=r.wf.pks_len (waysL.getD i []); omega)) ?_;rintro _ _ ⟨rfl,rfl⟩;rw[decide_eq_true (show(after lines).pks (waysL.getD i [])=(after lines).pks (waysL.getD i []) from rfl)];refine QE ?_;refine Od ?_;refine Of (dj:=118) rfl rfl ?_;refine Od ?_;refine Of (dj:=118) rfl rfl ?_;refine Od ?_;refine Of (dj:=118) rfl rfl ?_;refine O9 rfl ?_;refine OG ?_;refine Od ?_;refine Of (dj:=123) rfl rfl ?_;refine Od ?_;refine Of (dj:=123) rfl rfl ?_;refine Od ?_;refine Of (dj:=123) rfl rfl ?_;refine O9 rfl ?_;refine OG ?_;refine Od ?_;refine Of (dj:=128) rfl rfl ?_;refine Od ?_;refine Of (dj:=128) rfl rfl ?_;refine Od ?_;refine Of (dj:=128) rfl rfl ?_;refine O9 rfl ?_;refine OG ?_;refine Od ?_;refine Of (dj:=133) rfl rfl ?_;refine Od ?_;refine Of (dj:=133) rfl rfl ?_;refine Od ?_;refine Of (dj:=133) rfl rfl ?_;refine O9 rfl ?_;refine OG ?_;refine Om [0,1,82,83,84,119,120,121,124,125,126,129,130,131,134,135,136,137] ?_;refine OK ?_;refine bY ?_;refine Ou [0,1,82,83,84,119,120,121,124,125,126,129,130,131,134,135,136] ?_;refine OI rfl ?_;refine Kn aC aC ?_;refine Od ?_;refine Og ?_;exact lpN (i+1) ⟨by omega,hw82.ext hS.keeps,hk2.trans hS.keeps⟩ aA
 intro c85;refine bQ ?_;refine Ou [0,1] ?_;refine b4 ?_;refine cW ?_;refine Oe ?_;refine Oz ?_;refine Kd (X:=Nat) (fun i=>[(0,b),(1,b2),(21,.int .i64 (i:Int))]) (fun i h'=>i≤6∧Keeps h h') (fun i=>6 - i) 1 ?_ ?_;exact⟨by omega,hk2⟩;rintro i h3 ⟨hi,hk2⟩;have hS:=St.refl h3;have r1:=r.ext hk2;have r3:=r2.ext hk2;refine Ov ?_;refine bd ?_;refine KOps.leq ?_;refine Om [0,1,21,140] ?_;refine Oo ?_ ?_;intro c140;refine Oy [0,1,21] ?_;refine bj ?_;refine cO ?_;refine Oj rfl (Vp (r1.ext hS.keeps)) ?_;rintro _ _ ⟨rfl,rfl⟩;refine bh ?_;refine Om [0,1,21,22,23] ?_;refine cO ?_;refine Oj rfl (Vp (r3.ext hS.keeps)) ?_;rintro _ _ ⟨rfl,rfl⟩;refine bh ?_;refine Om [0,1,21,22,23,24,25] ?_;refine cO ?_;refine O9 rfl ?_;refine Od ?_;refine Of (dj:=158) rfl rfl ?_;refine Od ?_;refine Of (dj:=158) rfl rfl ?_;refine Od ?_;refine Of (dj:=158) rfl rfl ?_;refine O9 rfl ?_;refine OG ?_;refine Om [0,1,21,159,160,161,162] ?_;refine OK ?_;refine bY ?_;refine Ou [0,1,21,159,160,161] ?_;refine OI rfl ?_;refine Od ?_;refine Kn aC aC ?_;refine cW ?_;exact lpN (i+1) ⟨by omega,hk2.trans hS.keeps⟩ aA;intro c140;refine bQ ?_;refine Ou [] ?_;refine Ot ?_;refine cW ?_;refine Oe ?_;refine Qa ?_;refine fnQ.ret1 ?_;exact⟨rfl,hk2⟩
end Go.Am
namespace Go.Am
section
variable {P:Program} {n:Nat} {ops:Array Oper} {ex:List Nat} {Q:KF→AHeap→Prop} {k:Nat} {os:List Oper} {K:KF} {h:AHeap} {d:Nat} {ty:TypeId} {pos:String} {after:Array Edge}
theorem KOps.wEqlV {t t':TypeId} {x y:Operand} {a b:Str} [hx:EvK h.globs n K x (.str (wd a))] [hy:EvK h.globs n K y (.str (wd b))] (he:a=b) (hk:KOps P n ops ex Q (k+1) os ((d,.bool true)::K) h):KOps P n ops ex Q k (⟨some d,.binOp .eql t x y t',ty,pos,after,none⟩::os) K h:=by
 refine KOps.wEql ?_;rw[decide_eq_true he]; exact hk
end
end Go.Am
namespace Go.Am
def FB (h0 h:AHeap) (f:Str) (v:AV):Prop:=(QG f≠0∧v = .nilp∧Keeps h0 h)∨(QG f=0∧Bk h0 h v (KX f) [])
theorem JK {h:AHeap} {f:Str} (hf:f.length≤1000000) (hV:Vs h):ACalls Go.Proofs.Tryz.prog 48 [.str (wd f)] h (fun q h'=>∃ v,q = .tup [v,.int .i64 (QG f)]∧FB h h' f v):=by
 refine(readF_c hf hV).mono ?_;rintro q h' (⟨h1,h2,h3⟩|⟨h1,b,h2,h3⟩);exact⟨_,h2,.inl ⟨h1,rfl,h3⟩⟩;exact⟨b,by rw[h1]; exact h2,.inr ⟨h1,h3⟩⟩
theorem FB.keeps {h0 h:AHeap} {f:Str} {v:AV} (x:FB h0 h f v):Keeps h0 h:=by
 rcases x with ⟨_,_,k⟩|⟨_,_,_,_,hS⟩
 exact k;exact hS.keeps
end Go.Am
namespace Go.Am
abbrev bys (l:List UInt8):List AV:=l.map fun c=>.int .u8 (c.toNat:Int)
theorem HRel.mark {φ : Emb} {h : AHeap} {w w' : World} (r : HRel φ h w) {k : Nat} {c : Array Value} {e : TypeId} {f f' : Nat × Nat} (hk : w.heap[k]? = some (.cells c e f)) (hk' : w'.heap[k]? = some (.cells c e f')) (hf : c.size ≤ f'.1 ∨ f'.2 = 0)
    (hold:∀ k',k'≠k→w'.heap[k']? = w.heap[k']?) (hsz:w'.heap.size=w.heap.size):HRel φ h w':=by
 have hcell:∀ k' j,w'.cell? ⟨k',j,none⟩=w.cell? ⟨k',j,none⟩:=by
  intro k' j;by_cases hkk:k'=k;subst hkk;rw[cell_of_row w' k' j c e f' hk',cell_of_row w k' j c e f hk];exact World.cell?_of_block (hold k' hkk)
 have hrow:∀ k' c' e',RowAt w k' c' e'→RowAt w' k' c' e':=by
  intro k' c' e' hr;by_cases hkk:k'=k;subst hkk;obtain⟨g,h1,_⟩:=hr;rw[hk] at h1;cases h1;exact⟨f',hk',hf⟩;exact hr.old (hold k' hkk)
 refine⟨r.glob,fun b k' i z hb=>by rw[hsz]; exact r.lt b k' i z hb,?_,?_,r.one,r.sep,r.map,r.ext⟩
 ·intro b k' i z B hb hB hv;have h1:=r.blk b k' i z B hb hB hv;by_cases hkk:k'=k
  ·subst hkk
   cases B with
   | cells F p cs=>
    cases F with
    | none=>
     refine⟨fun j x hx=>let⟨v,h2,h3⟩:=h1.1 j x hx; ⟨v,by rw[hcell]; exact h2,h3⟩,fun hp=>?_⟩;obtain⟨hi,c2,e2,f2,h2,h3⟩:=h1.2 hp;rw[hk] at h2;cases h2;exact⟨hi,c,e,f',hk',h3⟩
    | some F=>
     obtain⟨c2,e2,h2,h3⟩:=h1;exact⟨c2,e2,hrow _ _ _ h2,h3⟩
   | obj F x=>
    cases x with
    | map es=>obtain⟨ms,h2,_⟩:=h1; rw[hk] at h2; cases h2
    | dmap es=>obtain⟨ms,n,h2,_⟩:=h1; rw[hk] at h2; cases h2
    | walk s pos=>have h2:w.heap[k']? = _:=h1; rw[hk] at h2; cases h2
    | mwalk bm n seen=>obtain⟨km,im,zm,_,h2⟩:=h1; rw[hk] at h2; cases h2
    | gone=>trivial
  exact h1.world (hold k' hkk)
 intro b k' i z F p cs hb hB;obtain⟨c2,e2,h1,h2⟩:=r.arr b k' i z F p cs hb hB;exact⟨c2,e2,hrow _ _ _ h1,h2⟩
theorem Trans.mark {φ φ':Emb} {h h':AHeap} {w w1 w':World} (t:Trans φ h w φ' h' w1) {k:Nat} (hk:w.heap.size≤k) (hold:∀ k',k'≠k→w'.heap[k']? = w1.heap[k']?) (hsz:w'.heap.size=w1.heap.size) (h1:w'.os=w1.os) (h2:w'.tape=w1.tape) (h3:w'.output=w1.output):Trans φ h w φ' h' w':=
  ⟨t.le,t.dom,t.new,t.img,fun k' hk' hm=>(hold k' aA).trans (t.frame k' hk' hm),h1.trans t.os,h2.trans t.tape,h3.trans t.output,by rw[hsz]; exact t.size⟩
theorem byt_cells (l:List UInt8) {φ:Emb} {w:World} {e:TypeId} {s:ByteArray} (hl:s.data.toList=l):CellsAt φ (bys l) (dC w e s) 0:=by
 subst hl;intro j x hx;rw[dQ] at hx;obtain⟨c,hc,rfl⟩:=Option.map_eq_some_iff.1 hx;refine⟨.int .u8 (c.toNat:Int),?_,.int _ _⟩;have hj:j<s.data.size:=by have:=(List.getElem?_eq_some_iff.1 hc).1; simpa using this
 rw[dU,dC,Array.getElem?_append_left bJ,Array.getElem?_map,←dD,hc];rfl
theorem Wf {P : Program} {ρ : Operand → AV} {o : Oper} {h : AHeap} {src dst e : TypeId} {x : Operand} {s : ByteArray} (ho : o.op = .convert src dst x) (hx : ρ x = .str s) (hs : QM P src = true) (hd : QU P dst = some e) (he : Z5 P e = some .u8) (h1 : szA P e = some 1) (hl : s.size ≤ 1000000) :
    StepS P ρ o h (.slc h.next 0 s.size 1 false) (h.alloc (bys s.data.toList)):=by
 refine⟨HGrow.alloc h _,?_⟩;intro φ a w K Q hfr r hops hk;have hvx:=hops x aU;rw[hx] at hvx;generalize hex:a.eval x=cx at hvx;cases hvx;have hrun:=Lib.run_convert_string_bytes (P:=P) w src dst e s (Zq hs) (QH hd) (Z6 he);have hφ : φ h.next=none:=hfr h.next (dW _) (by rw[AHeap.next_alloc]; omega);have hge:=grownCap_ge w s.size 0 e;have hle:=grownCap_le_maxLen w s.size 0 e (by unfold maxLen; omega);have hsize:(dC w e s).size=grownCap w s.size 0 e:=by
  rw[dC,Array.size_append,Array.size_map,Array.size_replicate];have:s.data.size=s.size:=rfl;omega
 have hlen:(bys s.data.toList).length≤(dC w e s).size:=by
  rw[hsize,dJ,dZ]; exact hge
 obtain⟨r',tr⟩:=(r.drew).alloc hφ (bys s.data.toList) (dC w e s) e hlen (byt_cells _ rfl);have hold:∀ k',k'≠w.heap.size→(dM w e s).heap[k']? = (w.drew.alloc (.cells (dC w e s) e)).heap[k']?:=by
  intro k' hk';simp only[dM,World.freeze];rw[if_neg aE,Array.getElem?_modify,if_neg (fun e=>hk' e.symm)]
 have hsz:(dM w e s).heap.size=(w.drew.alloc (.cells (dC w e s) e)).heap.size:=by
  simp only[dM,World.freeze];rw[if_neg aE,Array.size_modify]
 have r2:=r'.mark (k:=w.heap.size) (heap_alloc_new w.drew _) (Lib.bytesWorld_at_new w e s) (.inl (dW _)) hold hsz;have t2:=tr.mark (k:=w.heap.size) (dW _) hold hsz rfl rfl rfl;refine wp_of_run (w':=dM w e s) (c:=.slice (some ⟨w.heap.size,0,none⟩) s.size (grownCap w s.size 0 e)) ?_ (hk _ _ _ t2.drew r2 ?_);simp[execOp,ho,hex,hrun];exact .slc _ 0 _ 1 false _ _ hge hle (fun h=>by cases h) (.inr ⟨_,0,_,Emb.upd_same _ _ _,rfl,by rw[hsize]; simp⟩)
theorem BRel.cellY {φ:Emb} {w:World} {k i z p:Nat} {F:Option Nat} {cs:List AV} (hb:BRel φ w k i z (.cells F p cs)) {j:Nat} {x:AV} (hx:cs[j]? = some x):∃ v,w.cell? ⟨k,i+j,none⟩=some v∧VRel φ x v:=by
 cases F with
 | none=>exact hb.1 j x hx
 | some F=>
  obtain⟨c,e,h1,h2,h3⟩:=hb;obtain⟨v,h4,h5⟩:=h3 j x hx;exact⟨v,by rw[h1.cell]; exact h4,h5⟩
theorem Rd.slcY {φ : Emb} {h : AHeap} {w : World} {v : AV} {xs : List AV} {cv : Value} (r : HRel φ h w) (hr : Rd h v 1 xs) (hv : VRel φ v cv) :
    ∃ ao k o c,cv = .slice ao xs.length c∧(xs≠[]→ao=some ⟨k,o,none⟩)∧∀ (j:Nat) (x:AV),xs[j]? = some x→∃ u,w.cell? ⟨k,o+j,none⟩=some u∧VRel φ x u:=by
 rcases hr with ⟨rfl,rfl⟩|⟨b',o',F,p,cs,h1,h2,h3,h4⟩|⟨b',F,x,_,h0,_⟩
 cases hv;exact⟨none,0,0,0,rfl,fun h=>absurd rfl h,fun j x hx=>by simp at hx⟩
 ·rcases h1 with ⟨n,full,rfl,hn,_⟩|⟨h0,_⟩
  ·cases hv with|slc _ _ _ _ _ a c hnc hc hf hadr=>
   have hnx:n=xs.length:=by omega
   subst hnx;rcases hadr with hadr|⟨k,i,z,hφ,ha1,hfz⟩
   have he:xs = []:=dS.1 aA;subst he;exact⟨some a,0,0,c,rfl,fun h=>absurd rfl h,fun j x hx=>by simp at hx⟩;refine⟨some a,k,i+o',c,rfl,fun _=>by rw[ha1],?_⟩;intro j x hx;have hb:=r.blk b' k i z _ hφ h2 h3;have hx2:cs[o'+j]? = some x:=by
    rw[←h4,List.getElem?_take] at hx;split at hx;rwa [List.getElem?_drop] at hx;cases hx
   obtain⟨u,h5,h6⟩:=hb.cellY hx2;exact⟨u,by rw[Nat.add_assoc]; exact h5,h6⟩
  cases h0
 cases h0
theorem push_fold (l:List UInt8):∀ b:List UInt8,(l.map fun c=>((c.toNat:Nat):Int)).foldl (fun r n=>r.push (UInt8.ofNat n.toNat)) (dN b.toArray)=dN (b ++ l).toArray:=by
 induction l with
 | nil=>intro b; simp
 | cons c l ih=>
  intro b;rw[List.map_cons,List.foldl_cons];have e:(dN b.toArray).push (UInt8.ofNat ((c.toNat:Nat):Int).toNat)=dN (b ++ [c]).toArray:=by
   rw[show((c.toNat:Nat):Int).toNat=c.toNat from rfl,UInt8.ofNat_toNat];simp[ByteArray.push]
  rw[e,ih,dO]; rfl
theorem Vu {P : Program} {ρ : Operand → AV} {o : Oper} {h : AHeap} {src dst e : TypeId} {x : Operand} {v : AV} {l : List UInt8} (ho : o.op = .convert src dst x) (hx : ρ x = v) (hr : Rd h v 1 (bys l)) (hne : l ≠ []) (hs : QU P src = some e) (he : Z5 P e = some .u8) (hd : QM P dst = true) :
    ReadS P ρ o h (.str ⟨l.toArray⟩):=by
 intro φ w ev r hops;have hvx:=hops x aU;rw[hx] at hvx;generalize hex:ev x=cx at hvx;obtain⟨ao,k,i,c,rfl,h1,h2⟩:=Rd.slcY r hr hvx;have hl:(bys l).length=l.length:=dJ _;have hne2:bys l≠[]:=fun e=>hne (List.map_eq_nil_iff.1 e)
 have h1:=h1 hne2;subst h1;have hcells:∀ j u,(l.map fun c=>Value.int .u8 ((c.toNat:Nat):Int))[j]? = some u→w.cell? ((⟨k,i,none⟩:Addr).add j)=some u:=by
  intro j u hu;rw[dQ] at hu;obtain⟨y,hy,rfl⟩:=Option.map_eq_some_iff.1 hu;obtain⟨u',h3,h4⟩:=h2 j (.int .u8 (y.toNat:Int)) (by rw[dQ,hy]; rfl);cases h4;rw[Addr.add_lit];exact h3
 have hload:=run_loadCells_list (P:=P) w ⟨k,i,none⟩ (l.map fun c=>Value.int .u8 ((c.toNat:Nat):Int)) hcells;rw[dJ] at hload;have hrun:=run_bytesToString (P:=P) w ⟨k,i,none⟩ l.length c (l.map fun c=>((c.toNat:Nat):Int)) (by rw[hload,List.map_map]; rfl);have hf:=push_fold l [];rw[dT] at hf;have hf2:(l.map fun c=>((c.toNat:Nat):Int)).foldl (fun r n=>r.push (UInt8.ofNat n.toNat)) ByteArray.empty=dN l.toArray:=hf;rw[hf2] at hrun;refine⟨.string ⟨l.toArray⟩,?_,.str _⟩;rw[hl] at hex;simp[execOp,ho,hex,convert,run_underlying (QH hs),run_underlying (Zq hd),run_underlying (Z6 he),hrun]
theorem U7 {P : Program} {ρ : Operand → AV} {o : Oper} {h : AHeap} {src dst e : TypeId} {x : Operand} {v : AV} {l : List UInt8} (ho : o.op = .convert src dst x) (hx : ρ x = v) (hr : Rd h v 1 (bys l)) (hne : l ≠ []) (hs : QU P src = some e) (he : Z5 P e = some .u8) (hd : QM P dst = true) :
    StepS P ρ o h (.str ⟨l.toArray⟩) h:=(Vu ho hx hr hne hs he hd).stepS
section
variable {P:Program} {n:Nat} {ops:Array Oper} {Q:KF→AHeap→Prop} {k:Nat} {os:List Oper} {K:KF} {h h0:AHeap} {objs:List Obj} {d:Nat} {ty:TypeId} {pos:String} {after:Array Edge}
theorem KOps.toBytes {src dst e : TypeId} {x : Operand} {l : List UInt8} [hx : EvK h.globs n K x (.str ⟨l.toArray⟩)] (st : St h0 h objs) (hs : QM P src = true) (hd : QU P dst = some e) (he : Z5 P e = some .u8) (h1 : szA P e = some 1) (hl : l.length ≤ 1000000)
    (hk:∀ v h',St h0 h' (⟨v,1,bys l,true⟩::objs)→KOps P n ops TXT Q (k+1) os ((d,v)::K) h') (hlt:Nat.beq k 1000000=false:=by rfl):KOps P n ops TXT Q k (⟨some d,.convert src dst x,ty,pos,after,none⟩::os) K h:=
  Zo (Wf rfl hx.eq hs hd he h1 hl) (hk _ _ (st.alloc (.inl ⟨_,false,rfl,by simp[ByteArray.size],by decide⟩))) hlt
theorem KOps.ofBytes {src dst e : TypeId} {x : Operand} {v : AV} {l : List UInt8} [hx : EvK h.globs n K x v] (hr : Rd h v 1 (bys l)) (hne : l ≠ []) (hs : QU P src = some e) (he : Z5 P e = some .u8) (hd : QM P dst = true)
    (hk:KOps P n ops TXT Q (k+1) os ((d,.str ⟨l.toArray⟩)::K) h) (hlt:Nat.beq k 1000000=false:=by rfl):KOps P n ops TXT Q k (⟨some d,.convert src dst x,ty,pos,after,none⟩::os) K h:=
  Zo (U7 rfl hx.eq hr hne hs he hd) hk hlt
variable {ex:List Nat}
theorem KOps.loadY {x : Operand} {p v : AV} {t : TypeId} {j : Nat} {l : List UInt8} [hx : EvK h.globs n K x p] [ht : ScT P t] (ha : AddrOf p v 1 j) (hr : Rd h v 1 (bys l)) (hj : j < l.length) (hk : KOps P n ops ex Q (k + 1) os ((d, .int .u8 ((l.getD j 0).toNat : Int)) :: K) h) :
    KOps P n ops ex Q k (⟨some d,.load t x,ty,pos,after,none⟩::os) K h:=
  Oh ha hr bB hk
theorem KOps.storeY {t : TypeId} {x y : Operand} {p v : AV} {i j : Nat} {c : UInt8} {z : Int} {l : List UInt8} {tip : Bool} [hx : EvK h.globs n K x p] [hy : EvK h.globs n K y (.int .u8 z)] (hz : z = (c.toNat : Int)) [ht : ScT P t] (st : St h0 h objs) (hex : ex.contains k = false) (hk' : objs[i]? = some ⟨v, 1, bys l, tip⟩) (ha : AddrOf p v 1 j) (hj : j < l.length)
    (hk:∀ h',St h0 h' (objs.set i ⟨v,1,bys (l.set j c),tip⟩)→KOps P n ops ex Q (k+1) os K h'):KOps P n ops ex Q k (⟨none,.store t x y,ty,pos,after,none⟩::os) K h:=by
 subst hz;refine KK st hex hk' ha rfl bJ ?_;intro h' hS;refine hk h' ?_;have e:(bys l).set j (.int .u8 (c.toNat:Int))=bys (l.set j c):=by simp[List.map_set]
 simp only[e] at hS;exact hS
end
end Go.Am
namespace Go.Am.R
theorem AW.region_drawG {P : Program} {id c : Nat} {ops : Array Oper} {l1 l2 : List Oper} {oc : Oper} {ex : List Nat} {sz : Nat} {Q : Ex → List AV → AHeap → Prop} {fr : List AV} {h : AHeap} (hm : P.follows .mixedOrders = true) (hl : ops.toList = l1 ++ oc :: l2) (hc : l1.length = c)
    (hok:RgOk sz ops ex []) (hsz:fr.length=sz) (hm1:ex.contains (c+1000)=false) (hmk:ex.contains (c+2000)=true) (hcv:isConv oc.op=true)
    (hw:AOps P ops ex (fun fr1 h1=>(∃ j want,oc.guard=some (j,want)∧guardA ops fr1 j=some (some want))∧∃ v,ReadS P (evalA h1.globs fr1) oc h1 v∧AOps P ops ex (Q .normal) (c+1) l2 (setF fr1 oc.dst v) h1) 0 l1 fr h):AW P (.region id ops true) Q fr h:=by
 have hsize:ops.size=l1.length+(l2.length+1):=by rw[←dZ,hl,dL,fE]
 have g1:∀ i,i<l1.length→l1[i]? = ops[0+i]?:=by
  intro i hi;rw[dU,←dD,hl,List.getElem?_append_left hi]
 have hoc:ops[c]? = some oc:=by
  rw[←dD,hl,dP (by omega),hc,Nat.sub_self]; rfl
 have g2:∀ i,l2[i]? = ops[c+1+i]?:=by
  intro i;rw[←dD,hl,dP (by omega),hc,show c+1+i - c=i+1 by omega];rfl
 obtain⟨vs1,frs1,hs1,e1,e2,⟨hgd,v,hst,hK1⟩,hall1⟩:=aops_textP hok.ntx l1 0 fr h g1 hw;simp only[dU,hc] at hgd hst hK1 hall1;obtain⟨vs2,frs2,hs2,e3,e4,hK2,hall2⟩:=aops_text hok.ntx l2 (c+1) _ _ g2 hK1;refine AW.region_run hm hok hsz (vs:=fun i=>if i<c then vs1 i else if i=c then v else vs2 i) (frs:=fun i=>if i≤c then frs1 i else frs2 i) (hs:=fun i=>if i≤c then hs1 i else hs2 i) (by simp[e1]) (by simp[e2]) ?_ ?_ ?_;simp only[if_neg (show¬ ops.size≤c by omega)];rw[show ops.size=c+1+l2.length by omega];exact hK2;intro i oi hi hoi;by_cases h1:i<c;simp only[if_pos h1,if_pos (show i≤c by omega),if_pos (show i+1≤c by omega)];exact TS.of (hall1 i oi (dH _) (by omega) hoi);by_cases h2:i=c;subst h2;rw[hoc] at hoi;cases hoi;simp only[if_neg h1,if_true,dW,if_neg (show¬ i+1≤i by omega),e3,e4];exact⟨rfl,.inr ⟨.inr hgd,SemI.read hm1 hmk hcv hst,fun _ w=>HExt.refl _⟩⟩;simp only[if_neg h1,if_neg h2,if_neg (show¬ i≤c by omega),if_neg (show¬ i+1≤c by omega)];exact TS.of (hall2 i oi (by omega) (by omega) hoi);intro c r o hcr; cases hcr
end Go.Am.R
namespace Go.Am
section
variable {P:Program} {n:Nat} {Q:Ex→KF→AHeap→Prop} {K:KF} {h:AHeap}
theorem KA.drawG {id c d j dj : Nat} {want : Bool} {oj : Oper} {ops : Array Oper} {l1 l2 : List Oper} {op : Op} {ty : TypeId} {pos : String} {after : Array Edge} (ex : List Nat) (hm : P.follows .mixedOrders = true) (hl1 : ops.toList.take c = l1) (hl2 : ops.toList.drop c = ⟨some d, op, ty, pos, after, some (j, want)⟩ :: l2) (hc : l1.length = c) (hok : R.rgOk n ops.toList ex = true) (hm1 : ex.contains (c + 1000) = false) (hmk : ex.contains (c + 2000) = true) (hcv : R.isConv op = true) (hoj : ops[j]? = some oj) (hdj : oj.dst = some dj)
    (hw:KOps P n ops ex (fun K1 h1=>Kz h1.globs n K1 (.tmp dj) = .bool want∧∃ v,ReadS P (Kz h1.globs n K1) ⟨some d,op,ty,pos,after,some (j,want)⟩ h1 v∧KOps P n ops ex (Q .normal) (c+1) l2 ((d,v)::K1) h1) 0 l1 K h):KA P n (.region id ops true) Q K h:=by
 refine R.AW.region_drawG (c:=c) (l1:=l1) (l2:=l2) hm (by rw[←hl1,←hl2,List.take_append_drop]) hc (R.rgOk_sound rfl hok) (Ql n K) hm1 hmk hcv ?_;refine Z1 ?_ _ _ _ _ hw;rintro fr1 h1 ⟨K1,rfl,hg,v,hst,hrest⟩;refine⟨⟨j,want,rfl,?_⟩,v,?_,?_⟩;rw[←Zp] at hg;unfold guardA;rw[hoj,Option.bind_some,hdj];dsimp only;rw[show(KN n K1).getD dj .bot = .bool want from hg];rw[Zp]; exact hst;simp only[setF,Zw]; exact hrest
end
section
variable {P:Program} {n:Nat} {ops:Array Oper} {ex:List Nat} {Q:KF→AHeap→Prop} {k j:Nat} {l2:List Oper} {K:KF} {h:AHeap} {d:Nat} {ty:TypeId} {pos:String} {after:Array Edge} {g:Option (Nat × Bool)}
theorem KOps.ofBytesG {src dst e : TypeId} {x : Operand} {v : AV} {l : List UInt8} {dj : Nat} {want : Bool} [hx : EvK h.globs n K x v] [hg : EvK h.globs n K (.tmp dj) (.bool want)] (hr : Rd h v 1 (bys l)) (hne : l ≠ []) (hs : QU P src = some e) (he : Z5 P e = some .u8) (hd : QM P dst = true) (hk : KOps P n ops ex Q j l2 ((d, .str ⟨l.toArray⟩) :: K) h) :
    KOps P n ops ex (fun K1 h1=>Kz h1.globs n K1 (.tmp dj) = .bool want∧∃ v,ReadS P (Kz h1.globs n K1) ⟨some d,.convert src dst x,ty,pos,after,g⟩ h1 v∧KOps P n ops ex Q j l2 ((d,v)::K1) h1) k [] K h:=
  Og ⟨hg.eq,_,Vu rfl hx.eq hr hne hs he hd,hk⟩
end
theorem bits_xorN {kd:IntKind} {x y:Nat} (hx:x<Xt kd) (hy:y<Xt kd):Go.bits .xor kd (x:Int) (y:Int)=((x ^^^ y:Nat):Int):=by
 show kd.wrap (((BitVec.ofInt kd.bits (x:Int) ^^^ BitVec.ofInt kd.bits (y:Int)).toNat:Nat):Int)=_;obtain⟨m,h1,-⟩:=W9 kd;have hx':=hx; have hy':=hy;rw[h1] at hx' hy';rw[BitVec.toNat_xor,ofIntN hx,ofIntN hy,wrapN];rw[h1];exact Nat.xor_lt_two_pow hx' hy'
section
variable {P:Program} {n:Nat} {ops:Array Oper} {ex:List Nat} {Q:KF→AHeap→Prop} {k:Nat} {os:List Oper} {K:KF} {h:AHeap} {d:Nat} {ty:TypeId} {pos:String} {after:Array Edge}
theorem KOps.xorN {t t' : TypeId} {x y : Operand} {kd : IntKind} {a b : Int} (i j : Nat) [hx : EvK h.globs n K x (.int kd a)] [hy : EvK h.globs n K y (.int kd b)] (ha : a = (i : Int)) (hb : b = (j : Int)) (hi : i < Xt kd) (hj : j < Xt kd) (hk : KOps P n ops ex Q (k + 1) os ((d, .int kd ((i ^^^ j : Nat) : Int)) :: K) h) :
    KOps P n ops ex Q k (⟨some d,.binOp .xor t x y t',ty,pos,after,none⟩::os) K h:=by
 subst ha hb;exact Qe (.inr (.inr rfl)) (by simp only[XB,bits_xorN hi hj]) hk
theorem KOps.remN {t t' : TypeId} {x y : Operand} {kd : IntKind} {a b : Int} (i j : Nat) [hx : EvK h.globs n K x (.int kd a)] [hy : EvK h.globs n K y (.int kd b)] (ha : a = (i : Int)) (hb : b = (j : Int)) (h0 : 0 < j) (hi : i < Xt kd) (hk : KOps P n ops ex Q (k + 1) os ((d, .int kd ((i % j : Nat) : Int)) :: K) h) :
    KOps P n ops ex Q k (⟨some d,.binOp .rem t x y t',ty,pos,after,none⟩::os) K h:=by
 subst ha hb;have e:((i:Int)).tmod (j:Int)=((i % j:Nat):Int):=by rw[dF aA]; rfl
 have hne:((j:Nat):Int)≠0:=by omega
 exact Qe (.inr (.inr rfl)) (by simp only[XB,if_neg hne,e,wrapN (Nat.lt_of_le_of_lt (Nat.mod_le i j) hi)]) hk
end
end Go.Am
namespace Go.Am
structure Hs where
  rooms:List Str
  ways:List Str
  ends:List (Str × (Int × Int))
  told:List (Str × (Int × Int))
  paid:List (Str × Int)
  claims:List Str
  packs:List (Int × Str)
  state:List (Int × Int)
  order:List Int
def hs0:Hs:=⟨[],[],[],[],[],[],[],[],[]⟩
def Hs.stt (h:Hs) (k:Int):Int:=(OB h.state k).getD 0
def Hs.pks (h:Hs) (w:Str):List Int:=h.order.filter fun k=>decide ((OB h.packs k).getD []=w) && decide (0<h.stt k)
structure HRl (O:Off) (h:Hs):Prop where
  rooms:h.rooms=O.rooms
  ways:h.ways=O.ways.map (·.1)
  ends:h.ends=O.ways.map fun p=>(p.1,((p.2.fr:Int),(p.2.to:Int)))
  told:h.told.map (·.1)=O.ways.map (·.1)
  toldU:∀ w l,OB O.ways w=some l→l.paid=false→OB h.told w=some (l.told.getD 0,l.top.getD 99)
  claims:h.claims=O.claims
  paidK:h.paid.map (·.1)=O.claims
  paid:∀ w l,OB O.ways w=some l→OB h.paid w=if l.paid then some (l.told.getD 0) else none
  packs:h.packs.map (·.1)=O.ever
  order:h.order=O.ever
  ever:O.ever.Nodup
  state:h.state.map (·.1)=O.ever
  st:∀ k,k∈O.ever→OB h.state k=some (match OB O.packs k with|some d=>d.2|none=>0)
  d3:∀ k d,OB O.packs k=some d→d.2=1∨d.2=2∨d.2=3
  pk:∀ k d,OB O.packs k=some d→OB h.packs k=some d.1
  lane:∀ w l,OB O.ways w=some l→l.packs=h.pks w
  least:∀ w l,OB O.ways w=some l→(l.packs.length:Int)≤l.lo
theorem hr0:HRl YP hs0:=by
 refine⟨rfl,rfl,rfl,rfl,?_,rfl,rfl,?_,rfl,rfl,by decide,rfl,?_,?_,?_,?_,?_⟩;intro w l h; cases h;intro w l h; cases h;intro k h; cases h;intro k d h; cases h;intro k d h; cases h;intro w l h; cases h;intro w l h; cases h
end Go.Am
namespace Go.Am
section
variable {h h0 h1 h2:AHeap} {b o:AV} {l m:List Str} {G:List Obj}
theorem Bk.lift {X:List Obj} (st:St h h1 X) (hB:Bk h1 h2 b l []):Bk h h2 b l []:=by
 obtain⟨vl,A,hb,hS⟩:=hB;exact⟨vl,A,hb,St.drop (A:=X) (St.perm List.perm_append_comm (St.trans st hS))⟩
end
theorem yLine_len (u:Bool) (q:Q4) (hq:q.Ok):(K7 u q).length≤60:=by
 have h1:(Zb waysL q.b).length≤4:=QI aE;have h2:(dR ((q.c % 10:Nat):Int)).length≤21:=dK _ aA aA;have h3:(dR ((1+q.c % 5:Nat):Int)).length≤21:=dK _ aA aA;have h4:(Zb roomsL q.c).length≤5:=QI aE;have h5:(Zb roomsL q.d).length≤5:=QI aE;have h6:(Zb [[118,97,117,108,116],[116,97,98,108,101]] q.d).length≤5:=QI aE;have h7:(Zb [[115,101,97,108,32],[98,117,114,110,32]] q.d).length≤5:=QI aE;have h8:(Zb [[100,101,97,108,32],[98,97,99,107,32]] q.d).length≤5:=QI aE;unfold K7 yW yN yP;dsimp only
 repeat' split
 all_goals simp only[dL,fE,List.length_nil]
 all_goals omega
theorem Rf {u:Bool} {y:List Q4} (hy:∀ q∈y,q.Ok):∀ x∈Xo u y,x.length≤1000000:=by
 intro x hx;rcases List.mem_append.1 hx with h|h
 have:∀ x∈XC,x.length≤1000000:=by decide
 exact this x h;obtain⟨q,hq,rfl⟩:=List.mem_map.1 h;have:=yLine_len u q (hy q (List.mem_of_mem_take hq));omega
theorem U4 (u:Bool) (y:List Q4):(Xo u y).length≤30:=by
 unfold Xo;rw[dL,dJ,List.length_take];show 6+_≤30;omega
end Go.Am
