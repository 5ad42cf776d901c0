/-
  Layer 14: what the lines of years tell (plain).
  Conditions: none.
-/
import Derived.Test.YtgnogfjajnnaoaaGreatDoorCac
open Go.Lib renaming itoa → dO, itoa_length_le → dH
open List renaming length_set → dE, length_nil → dU, length_append → dY, set_cons_zero → dC, set_cons_succ → dD, nil_append → dF, length_singleton → dG, length → dL, mem_append → dM
open Nat renaming mod_lt → dI, zero_add → dJ, le_refl → dK
namespace Go.Am
def tOk : Tell → Bool
  | .room r=>decide (r∈roomsL ++ [[118,97,117,108,116],[116,97,98,108,101]])
  | .way w f t=>decide (w∈waysL) && decide (f∈roomsL) && decide (t∈roomsL)
  | .bound w n _=>decide (w∈waysL) && decide (0≤n) && decide (n≤9)
  | .pack p w=>decide (1≤p) && decide (p≤5) && decide (w∈waysL)
  | .move p _=>decide (1≤p) && decide (p≤5)
  | .claim w n=>decide (w∈waysL) && decide (0≤n) && decide (n≤9)
  | .free w=>decide (w∈waysL)
theorem yk1:∀ b,b<5→∀ c,c<10→tOk (KR ([108,101,97,115,116,32] ++ waysL.getD b [] ++ [32] ++ dO ((c:Nat):Int)))=true:=by decide +kernel
theorem yk2:∀ b,b<5→∀ c,c<10→tOk (KR ([109,111,115,116,32] ++ waysL.getD b [] ++ [32] ++ dO ((c:Nat):Int)))=true:=by decide +kernel
theorem yk3:∀ b,b<5→∀ c,c<5→tOk (KR ([112,97,99,107,32] ++ dO ((1+c:Nat):Int) ++ [32] ++ waysL.getD b []))=true:=by decide +kernel
theorem yk4:∀ d,d<2→∀ c,c<5→tOk (KR ([[115,101,97,108,32],[98,117,114,110,32]].getD d [] ++ dO ((1+c:Nat):Int)))=true:=by decide +kernel
theorem yk5:∀ d,d<2→∀ c,c<5→tOk (KR ([[100,101,97,108,32],[98,97,99,107,32]].getD d [] ++ dO ((1+c:Nat):Int)))=true:=by decide +kernel
theorem yk6:∀ b,b<5→∀ c,c<10→tOk (KR ([99,108,97,105,109,32] ++ waysL.getD b [] ++ [32] ++ dO ((c:Nat):Int)))=true:=by decide +kernel
theorem yk7:∀ b,b<5→tOk (KR ([102,114,101,101,32] ++ waysL.getD b []))=true:=by decide +kernel
theorem yk8:∀ b,b<5→∀ c,c<3→∀ d,d<3→tOk (KR ([119,97,121,32] ++ waysL.getD b [] ++ [32] ++ roomsL.getD c [] ++ [32] ++ roomsL.getD d []))=true:=by decide +kernel
theorem yk9:∀ d,d<2→tOk (KR ([114,111,111,109,32] ++ [[118,97,117,108,116],[116,97,98,108,101]].getD d []))=true:=by decide +kernel
theorem yk0:∀ x∈XC,tOk (KR x)=true:=by decide +kernel
theorem yLine_ok (u:Bool) (q:Q4):K7 u q=YA∨tOk (KR (K7 u q))=true:=by
 have hb:q.b % 5<5:=dI _ aE;have h10:q.c % 10<10:=dI _ aE;have h5:q.c % 5<5:=dI _ aE;have h3:q.c % 3<3:=dI _ aE;have hd3:q.d % 3<3:=dI _ aE;have hd2:q.d % 2<2:=dI _ aE;unfold K7;dsimp only;split;exact .inr (yk1 _ hb _ h10);split;exact .inr (yk2 _ hb _ h10);split;exact .inr (yk3 _ hb _ h5);split;exact .inr (yk4 _ hd2 _ h5);split;exact .inr (yk5 _ hd2 _ h5);split;exact .inr (yk6 _ hb _ h10);split;exact .inr (yk7 _ hb);split;exact .inr (yk8 _ hb _ h3 _ hd3);split;exact .inl rfl;exact .inr (yk9 _ hd2)
theorem yLines_ok {u:Bool} {y:List Q4}:∀ x∈Xo u y,x=YA∨tOk (KR x)=true:=by
 intro x hx;rcases dM.1 hx with h|h
 exact .inr (yk0 x h);obtain⟨q,_,rfl⟩:=List.mem_map.1 h;exact yLine_ok u q
theorem doL_mem {ls:List Str} {x z:Str} (h:z∈doL ls x):z∈ls∨z=x:=by
 unfold doL at h;split at h;simpa using h;exact .inl h
theorem bookTo_mem {xs:List Str}:∀ i,i≤xs.length→∀ z∈Xl xs i,z∈xs:=by
 intro i
 induction i with
 | zero=>intro _ z hz; cases hz
 | succ i ih=>
  intro hi z hz;rw[Xl] at hz;by_cases hx:xs.getD i []=YA;rw[Ut hx] at hz;exact ih aA z ((List.dropLast_sublist _).subset hz);rw[bk_do hx] at hz;rcases doL_mem hz with h|h
  exact ih aA z h;rw[h]; exact getD_mem aA
theorem bookTo_len {xs:List Str}:∀ i,(Xl xs i).length≤i:=by
 intro i
 induction i with
 | zero=>exact dK _
 | succ i ih=>
  rw[Xl];by_cases hx:xs.getD i []=YA;rw[Ut hx,List.length_dropLast]; omega;rw[bk_do hx];unfold doL;split;rw[dY,dG]; omega;omega
structure YL (L:List Str):Prop where
  done:Done L
  ok:∀ x∈L,tOk (KR x)=true
  len:L.length≤30
theorem Done.noUndo {L:List Str} (hD:Done L):∀ x∈L,x≠YA:=by
 induction hD with
 | nil=>intro x hx; cases hx
 | @snoc lines line h he ih=>
  intro x hx;rcases dM.1 hx with h1|h1
  exact ih x h1;rw[List.mem_singleton.1 h1];rintro rfl;have:=(ZI he).1;revert this;decide +kernel
theorem YL.book {u:Bool} {y:List Q4} (hD:Done (VI (Xo u y))):YL (VI (Xo u y)):=by
 refine⟨hD,?_,Nat.le_trans (bookTo_len _) (U4 u y)⟩;intro x hx;rcases yLines_ok (u:=u) (y:=y) x (bookTo_mem _ (dK _) x hx) with h|h
 exact absurd h (hD.noUndo x hx);exact h
end Go.Am
namespace Go.Am
theorem UX {L:List Str} (hD:Done L):QG (fileT L)=0:=by
 obtain⟨h1,h2⟩:=J2 hD;unfold QG;rw[if_pos h1,h2,hD.all]
theorem readF_e {f:Str} (h:QG f=0):QK f=0:=by
 unfold QG at h;by_cases e:QK f=0;exact e;rw[if_neg e] at h; exact absurd h e
theorem fileT_pos (L:List Str) : 0<(fileT L).length:=by
 unfold fileT;simp only[dY,dG]; omega
theorem fileT_le {L:List Str} (hD:Done L) (hl:L.length≤30):(bodyT L L.length).length≤40000∧(fileT L).length≤50000:=by
 have h1:=Go.Proofs.Tryz.body_len L (fun x hx=>by have:=hD.small x hx; omega) L.length (dK _) aA;obtain⟨h2,h3⟩:=Go.Proofs.Tryz.sumTo_in (bodyT L L.length);have h4:=dH (Go.Proofs.Tryz.sumTo (bodyT L L.length)) aA aA;refine⟨by omega,?_⟩;unfold fileT;simp only[dY,List.length_cons,dU];omega
theorem FB.bk {h0 h:AHeap} {f:Str} {v:AV} (x:FB h0 h f v) (q:QG f=0):Bk h0 h v (KX f) []:=by
 rcases x with ⟨n,_⟩|⟨_,k⟩
 exact absurd q n;exact k
theorem FB.no {h0 h:AHeap} {f:Str} {v:AV} (x:FB h0 h f v) (q:¬ QG f=0):v = .nilp:=by
 rcases x with ⟨_,k,_⟩|⟨n,_⟩
 exact k;exact absurd n q
theorem xor_u8 {a b:Nat} (ha:a<256) (hb:b<256):((a ^^^ b:Nat):Int)=((UInt8.ofNat (a ^^^ b)).toNat:Int):=by
 have:a ^^^ b<2 ^ 8:=Nat.xor_lt_two_pow ha hb;rw[UInt8.toNat_ofNat_of_lt' this]
set_option synthInstance.maxSize 2000 in
set_option synthInstance.maxHeartbeats 200000 in
theorem WS {h:AHeap} {v1:AV} {y1:List Q4} {n1 n2:Nat} {sw:Bool} (hv1:Rd h v1 4 (flr qc y1)) (hy1:∀ q∈y1,q.Ok) (hn1:n1<65536) (hn2:n2<256) (hV:Vs h):ACalls Go.Proofs.Tryz.prog 10 [v1,.int .u16 (n1:Int),.int .u8 (n2:Int),.bool sw] h (fun q h'=>q = .bool true∧Keeps h h'):=by
 refine OH 169 [.tmp 8] Go.Proofs.Tryz.func10 rfl aE rfl rfl (Nat.le_of_ble_eq_true rfl) ?_;have hS:=St.refl h;show KA _ 169 _ _ [(0,v1),(1,.int .u16 (n1:Int)),(2,.int .u8 (n2:Int)),(3,.bool sw)] _;refine Ot ?_;refine On ?_;refine Om [0,1,2,3] ?_;refine bd ?_;refine Oj rfl (yLines_c hv1 hy1 hV) ?_;rintro v24 h24 hS;refine Oj rfl (book_c (hS.rd 0 rfl) (Nat.le_trans (U4 _ _) aA) (Rf hy1) (hV.ext hS.keeps)) ?_;rintro b h25 hB;have hB:=Bk.lift hS hB;have hY:YL (VI (Xo false y1)):=by obtain⟨_,_,hb,_⟩:=hB; exact YL.book hb.done
 clear hS;obtain⟨L,hL0⟩:∃ L,VI (Xo false y1)=L:=⟨_,rfl⟩;rw[hL0] at hB hY;obtain⟨vl,A,hb,hS0⟩:=hB;have r:=St.rbk hS0 hb;have hk0:=hS0.keeps;have hV1:=hV.ext hk0;have hlL:=hY.len;have hD:=hY.done;obtain⟨hbl,hfl⟩:=fileT_le hD hlL;have hfp:=fileT_pos L;obtain⟨c,hc⟩:∃ c,n1 % (fileT L).length=c:=⟨_,rfl⟩;have hcl:c<(fileT L).length:=hc ▸ dI _ hfp;have hS:=St.refl h25;refine On ?_;refine Om [1,2,3,9] ?_;refine Ot ?_;refine On ?_;refine br ?_;refine bd ?_;refine Oj rfl (JG (r.ext hS.keeps)) ?_;rintro v27 h27 hS27;replace hS:St _ _ (_::_):=St.trans hS hS27;refine OZ (hS.rd 0 rfl) ?_;refine Od ?_;refine Om [1,2,3,9,10,27,28,29] ?_;refine Oz ?_;refine Kd (X:=Nat) (fun i=>[(1,.int .u16 (n1:Int)),(2,.int .u8 (n2:Int)),(3,.bool sw),(9,b),(10,.str (wd (bodyT L i))),(27,v27),(28,.int .i64 (L.length:Int)),(29,.int .i64 ((i:Nat):Int))]) (fun i h'=>i≤L.length∧h27=h') (fun i=>L.length - i) 0 ?_ ?_;exact⟨Nat.zero_le _,rfl⟩;rintro i _ ⟨hi,rfl⟩;refine Ot ?_;refine Qn ?_;refine br ?_;refine Oo ?_ ?_
 ·intro c30;have hlt:i<L.length:=by omega
  have hbi:=Go.Proofs.Tryz.body_len L (fun x hx=>by have:=hD.small x hx; omega) i aA aA;have hil:=Go.Proofs.Tryz.itoa_len i aA;have hxl:=hD.small _ (getD_mem (d:=[]) hlt);obtain⟨x,hx⟩:∃ x,L.getD i []=x:=⟨_,rfl⟩;have hbn:bodyT L (i+1)=bodyT L i ++ (dO ((i:Int)+1) ++ [46,32] ++ x ++ [10]):=by rw[←hx]; rfl
  rw[hx] at hxl;refine Oy [1,2,3,9,10,27,28,29] ?_;refine bj ?_;refine bd ?_;refine Ow (hS.rd 0 rfl) (j:=i) rfl aB ?_;intro p32 hp32;refine OY hp32 (hS.rd 0 rfl) aB ?_;rw[hx];refine On ?_;refine On ?_;refine Om [1,2,3,9,10,11,12,27,28,29] ?_;refine OI rfl ?_;refine Od ?_;refine Od ?_;refine Kn aC aC ?_;refine Oj rfl (VR (hV1.ext hS.keeps).pw aA aA) ?_;rintro _ _ ⟨rfl,rfl⟩;refine Kt aB ?_;refine Od ?_;refine Kt aB ?_;refine Kt aB ?_;refine Kt aB ?_;refine On ?_;refine bw ?_;refine Ou [1,2,3,9,10,27,28,29] ?_;refine OI rfl ?_;refine Kn aC aC ?_;refine Od ?_;refine Og ?_;exact KZ (i+1) (by repeat (first|exact Sub.nil _|refine Sub.cons Look.eq ?_|refine Sub.cons (Eq.trans Look.eq (congrArg (AV.int _) aM)) ?_|refine Sub.cons (Eq.trans Look.eq (congrArg (fun s=>AV.str (wd s)) hbn.symm)) ?_)) ⟨by omega,rfl⟩ aA
 ·intro c30;have hie:i=L.length:=by omega
  subst hie;obtain⟨T,hT⟩:∃ T,bodyT L L.length=T:=⟨_,rfl⟩;have hFT:fileT L=T ++ [101,110,100,32] ++ dO (Go.Proofs.Tryz.sumTo T) ++ [10]:=by rw[←hT]; rfl
  rw[hT] at hbl⊢;refine bQ ?_;refine Ou [1,2,3,9,10] ?_;refine Ot ?_;refine On ?_;refine br ?_;refine bd ?_;refine Ze ?_;refine Od ?_;refine Om [1,2,3,9,10,13,45,46] ?_;refine Oz ?_;refine Kd (X:=Nat) (fun k=>[(1,.int .u16 (n1:Int)),(2,.int .u8 (n2:Int)),(3,.bool sw),(9,b),(10,.str (wd T)),(13,.int .i64 (Go.Proofs.Tryz.sumTo (T.take k))),(45,.int .i64 (T.length:Int)),(46,.int .i64 ((k:Nat):Int))]) (fun k h'=>k≤T.length∧h27=h') (fun k=>T.length - k) 0 ?_ ?_;exact⟨Nat.zero_le _,rfl⟩;rintro k _ ⟨hk,rfl⟩;refine Ot ?_;refine Qn ?_;refine br ?_;refine Oo ?_ ?_
  ·intro c47;have hlk:k<T.length:=by omega
   obtain⟨hs1,hs2⟩:=Go.Proofs.Tryz.sumTo_in (T.take k);have hc8:(T.getD k 0).toNat<256:=(T.getD k 0).toNat_lt;have hrm:Int.tmod (29*Go.Proofs.Tryz.sumTo (T.take k)+((T.getD k 0).toNat:Int)) 9973=Go.Proofs.Tryz.sumTo (T.take (k+1)):=by rw[Go.Proofs.Tryz.sumTo_next hlk,Int.tmod_eq_emod_of_nonneg aA]
   obtain⟨hs3,hs4⟩:=Go.Proofs.Tryz.sumTo_in (T.take (k+1));refine Oy [1,2,3,9,10,13,45,46] ?_;refine bj ?_;refine bd ?_;refine On ?_;refine Om [1,2,3,9,10,13,14,45,46] ?_;refine OI rfl ?_;refine Od ?_;refine KOps.mul aC aC ?_;refine Od ?_;refine Od ?_;refine KOps.wAt (j:=k) rfl aB ?_;refine ZF aA aA ?_;refine Kn aC aC ?_;refine KOps.rem (by first|decide|omega) (by rw[hrm]; omega) (by rw[hrm]; omega) ?_;rw[hrm];refine On ?_;refine bw ?_;refine Ou [1,2,3,9,10,13,45,46] ?_;refine OI rfl ?_;refine Kn aC aC ?_;refine Od ?_;refine Og ?_;exact lpN (k+1) ⟨by omega,rfl⟩ aA
  ·intro c47;have hke:k=T.length:=by omega
   subst hke;rw[List.take_length] at *;obtain⟨hs1,hs2⟩:=Go.Proofs.Tryz.sumTo_in T;have hil:=dH (Go.Proofs.Tryz.sumTo T) aA aA;refine bQ ?_;refine Ou [1,2,3,9,10,13] ?_;refine bd ?_;refine Oj rfl (Yg (r.ext hS.keeps) (hV1.ext hS.keeps)) ?_;rintro _ _ ⟨rfl,rfl⟩;refine On ?_;refine Om [1,2,3,9,10,13,15] ?_;refine bd ?_;refine Oj rfl (JK aA (hV1.ext hS.keeps)) ?_;rintro _ h62 ⟨v62,rfl,hF62⟩;have hB62:=hF62.bk (UX hD);rw[(J2 hD).2] at hB62;rw[UX hD];obtain⟨vl2,A2,hb2,hS2⟩:=hB62;have hk62:=hS.keeps.trans hS2.keeps;have r2:RBk h62 v62 vl2 A2 L:=St.rbk hS2 hb2;have r1:=r.ext hk62;have hV2:=hV1.ext hk62;clear hS;have hS:=St.refl h62;refine bh ?_;refine Om [1,2,3,9,10,13,15,16,17] ?_;refine Ov ?_;refine cO ?_;refine Kt aB ?_;refine Od ?_;refine Oj rfl (VR (hV2.ext hS.keeps).pw aA aA) ?_;rintro _ _ ⟨rfl,rfl⟩;refine Kt aB ?_;refine Kt aB ?_;refine KOps.wNeqV hFT ?_;refine Od ?_;refine Of (dj:=73) rfl rfl ?_;refine Od ?_;refine Of (dj:=73) rfl rfl ?_;refine O9 rfl ?_;refine OG ?_;refine cR ?_;refine Od ?_;refine Of (dj:=77) rfl rfl ?_;refine Oj rfl (same_c (r1.ext hS.keeps) (r2.ext hS.keeps) (hV2.ext hS.keeps)) ?_;rintro _ h80 ⟨rfl,hK⟩;replace hS:St _ _ _:=St.trans hS (St.ofK hK)
   try simp only[dF] at hS
   refine Of (dj:=77) rfl rfl ?_;refine QE ?_;refine OG ?_;refine Om [1,2,3,15,82] ?_;refine OK ?_;refine Oy [1,2,3,15] ?_;refine bd ?_;refine KOps.convIn (kd':=.i64) (by rw[IntKind.wrap_i64]; omega) ?_;refine Od ?_;refine Ze ?_;refine KOps.remN n1 (fileT L).length rfl rfl hfp ah ?_;rw[hc];refine On ?_;refine Om [2,3,15,18] ?_;refine KA.meet (X:=Unit) (fun _=>[(2,.int .u8 (n2:Int)),(3,.bool sw),(15,.str (wd (fileT L))),(18,.int .i64 ((c:Nat):Int))]) (fun _ h'=>Keeps h62 h') ?_ ?_
   ·
     refine cO ?_;refine KOps.wHi (j:=_) rfl aB ?_;refine Oj rfl (JK (by rw[List.length_take]; omega) (hV2.ext hS.keeps)) ?_;rintro _ h92 ⟨v92,rfl,hF92⟩;have hk92:=hS.keeps.trans hF92.keeps;have hV3:=hV2.ext hk92;clear hS;have hS:=St.refl h92;refine bh ?_;refine Om [2,3,15,18,19,20] ?_;refine Ov ?_;refine ON [7] mixed rfl aD ?_;refine Od ?_;refine KV ?_;refine Od ?_;refine OD (dj:=97) rfl rfl true false rfl ?_ ?_
     · intro g97;have g97:=of_decide_eq_true g97;obtain⟨vl3,A3,hb3,hS3⟩:=hF92.bk g97;have r92:RBk h92 v92 vl3 A3 _:=St.rbk hS3 hb3;refine Od ?_;refine Of (dj:=97) rfl rfl ?_;refine Zu aD r92.ad ?_;refine Of (dj:=97) rfl rfl ?_;refine Od ?_;refine Of (dj:=100) rfl rfl ?_;refine Od ?_;refine Of (dj:=100) rfl rfl ?_;refine Kf aI (Yg (r92.ext hS.keeps) (hV3.ext hS.keeps)) ?_;rintro _ _ ⟨rfl,rfl⟩;rw[Uf (readF_e g97)];refine Of (dj:=100) rfl rfl ?_;refine Od ?_;refine Of (dj:=100) rfl rfl ?_;refine Od ?_;refine Of (dj:=100) rfl rfl ?_;refine KOps.wHi (j:=_) rfl aB ?_;refine Of (dj:=100) rfl rfl ?_;refine KOps.wNeqV rfl ?_;refine Of (dj:=97) rfl rfl ?_;refine OG ?_;refine Ks ?_;refine Om [2,3,15,18,108] ?_;refine OK ?_;refine Ox ?_;exact mtN () (hk92.trans hS.keeps)
     intro g97;have g97:=of_decide_eq_false g97;refine Ke (dj:=97) rfl rfl rfl ?_;refine Ke (dj:=97) rfl rfl rfl ?_;refine cL ?_;refine cL ?_;refine Ke (dj:=97) rfl rfl rfl ?_;refine OG ?_;refine Om [2,3,15,18,108] ?_;refine OK ?_;refine Ox ?_;exact mtN () (hk92.trans hS.keeps)
   ·
     rintro _ h92 hk92;have hV3:=hV2.ext hk92;have hS:=St.refl h92;refine Ot ?_;have hcc:((fileT L).getD c 0).toNat<256:=((fileT L).getD c 0).toNat_lt;have hp : 1+n2 % 127<256:=by omega
     refine Od ?_;refine KOps.toBytes (e:=5) (l:=fileT L) hS aD aD aD aD aA ?_;intro v110 h' hS;refine On ?_;refine Om [2,3,15,18,21] ?_;refine cO ?_;refine Ow (hS.rd 0 rfl) (j:=c) rfl aB ?_;intro p113 hp113;refine KOps.loadY hp113 (hS.rd 0 rfl) aA ?_;refine Od ?_;refine KOps.remN n2 127 rfl rfl aE ah ?_;refine KOps.addN 1 (n2 % 127) rfl rfl ah ?_;refine KOps.xorN ((fileT L).getD c 0).toNat (1+n2 % 127) rfl rfl ah ah ?_;refine Ow (hS.rd 0 rfl) (j:=c) rfl aB ?_;intro p119 hp119;refine KOps.storeY (c:=UInt8.ofNat (((fileT L).getD c 0).toNat ^^^ (1+n2 % 127))) (i:=0) (xor_u8 hcc hp) hS rfl rfl hp119 aA ?_;intro h' hS;simp only[dC,dD,dJ] at hS;refine Om [3,15,18,21] ?_;refine KA.meet (X:=AV × Str) (fun x=>[(21,x.1)]) (fun x h'=>x.2≠[]∧x.2.length≤60000∧St h92 h' [⟨x.1,1,bys x.2,true⟩]) ?_ ?_
     ·
       refine cO ?_;refine OD (dj:=121) rfl rfl true false rfl ?_ ?_
       · intro g121;refine Od ?_;refine Of (dj:=121) rfl rfl ?_;refine Kn aC aC ?_;refine Of (dj:=121) rfl rfl ?_;refine Od ?_;refine Of (dj:=121) rfl rfl ?_;refine Ze ?_;refine Of (dj:=121) rfl rfl ?_;refine Qn ?_;refine Ks ?_;refine Om [15,18,21,127] ?_;refine Oo ?_ ?_
         · intro c127;refine bd ?_;refine KOps.toBytes (e:=5) (l:=fileT L) hS aD aD aD aD aA ?_;intro v129 h' hS;refine On ?_;refine Om [15,18,21] ?_;refine ON [] mixed rfl aD ?_;refine Od ?_;refine Od ?_;refine Od ?_;refine Od ?_;refine Kn aC aC ?_;refine Od ?_;refine Od ?_;refine Kn aC aC ?_;refine KOps.wAt (j:=_) rfl aB ?_;refine Od ?_;refine Od ?_;refine KOps.wAt (j:=c) rfl aB ?_;refine Ow (hS.rd 0 rfl) (j:=c) rfl aB ?_;intro p142 hp142;refine KOps.storeY (c:=(fileT L).getD (c+1) 0) (i:=0) rfl hS rfl rfl hp142 aA ?_;intro h' hS;simp only[dC,dD,dJ] at hS;refine Ow (hS.rd 0 rfl) (j:=c+1) aC aB ?_;intro p143 hp143;refine KOps.storeY (c:=(fileT L).getD c 0) (i:=0) rfl hS rfl rfl hp143 am ?_;intro h' hS;simp only[dC,dD,dJ] at hS;refine Og ?_;exact mtN (v129,((fileT L).set c ((fileT L).getD (c+1) 0)).set (c+1) ((fileT L).getD c 0)) ⟨fun e=>by have h9:=congrArg dL e; simp only[dE,dU] at h9; omega,by simp only[dE]; omega,St.pick [0] aE rfl hS⟩
         intro c127;refine Ox ?_;exact mtN (v110,(fileT L).set c (UInt8.ofNat (((fileT L).getD c 0).toNat ^^^ (1+n2 % 127)))) ⟨fun e=>by have h9:=congrArg dL e; simp only[dE,dU] at h9; omega,by simp only[dE]; omega,hS⟩
       intro g121;refine Ke (dj:=121) rfl rfl rfl ?_;refine Ke (dj:=121) rfl rfl rfl ?_;refine Ke (dj:=121) rfl rfl rfl ?_;refine Ke (dj:=121) rfl rfl rfl ?_;refine OG ?_;refine Om [15,18,21,127] ?_;refine OK ?_;refine Ox ?_;exact mtN (v110,(fileT L).set c (UInt8.ofNat (((fileT L).getD c 0).toNat ^^^ (1+n2 % 127)))) ⟨fun e=>by have h9:=congrArg dL e; simp only[dE,dU] at h9; omega,by simp only[dE]; omega,hS⟩
     ·
       rintro⟨v,l⟩ h5 ⟨hne,hll,hS⟩;dsimp only at hne hll hS⊢;have hV4:=hV3;refine bd ?_;refine KOps.ofBytes (e:=5) (l:=l) (hS.rd 0 rfl) hne aD aD aD ?_;refine Oj rfl (JK (f:=l) aA (hV4.ext hS.keeps)) ?_;rintro _ h147 ⟨v147,rfl,hF147⟩;have hS1:=St.on hS hF147.keeps;have hk147:=hF147.keeps;have hV5:=hV4.ext (hS.keeps.trans hk147);clear hS;have hS:=hS1;have hS27:=hS;refine bh ?_;refine Om [17,21,22] ?_;refine Ov ?_;by_cases hz:QG l=0
       · have _hs28:=hz;refine KA.drawG (c:=12) (d:=162) (j:=8) (dj:=158) [10,17,2012] mixed rfl rfl rfl aD aE aE rfl rfl rfl ?_;refine Od ?_;refine Zu aD (St.rbk (hF147.bk hz).choose_spec.choose_spec.2 (hF147.bk hz).choose_spec.choose_spec.1).ad ?_;refine Od ?_;refine O9 hz ?_;refine KOps.eqlB aD ?_;rw[show(false == false)=true from rfl];refine Od ?_;refine Of (dj:=155) rfl rfl ?_;refine Od ?_;refine Of (dj:=155) rfl rfl ?_;refine O9 hz ?_;refine Of (dj:=155) rfl rfl ?_;refine Od ?_;refine Of (dj:=158) rfl rfl ?_;refine Od ?_;obtain⟨vl4,A4,hb4,hS4⟩:=hF147.bk hz;have r147:RBk h147 v147 vl4 A4 (KX l):=St.rbk hS4 hb4;refine Of (dj:=158) rfl rfl ?_;refine Kf aI (Yg r147 hV5) ?_;rintro _ _ ⟨rfl,rfl⟩;rw[Uf (readF_e hz)];refine Of (dj:=158) rfl rfl ?_;refine Od ?_;refine KOps.ofBytesG (e:=5) (l:=l) (dj:=158) (hS.rd 0 rfl) hne aD aD aD ?_;refine Of (dj:=158) rfl rfl ?_;refine KOps.wEqlV rfl ?_;refine Of (dj:=155) rfl rfl ?_;refine OG ?_;refine Ks ?_;refine Od ?_;refine Of (dj:=166) rfl rfl ?_;refine Kf (by intro _ _ hr; exact hr.2) (works_c (hV4.ext hS.keeps)) ?_;rintro _ hw ⟨rfl,hK⟩;replace hS:St _ _ _:=St.trans hS (St.ofK hK)
         try simp only[dF] at hS
         refine Ks ?_;refine On ?_;refine Om [8] ?_;refine Qa ?_;refine fnQ.ret1 ?_;exact⟨rfl,hk0.trans (hk62.trans (hk92.trans hS.keeps))⟩
       · have _hs28:=hz;refine ON [10,17] mixed rfl aD ?_;refine Od ?_;refine KOps.ptrEqY aD (hF147.no hz) ?_;refine Od ?_;refine KOps.neqT hz ?_;refine KOps.eqlB aD ?_;rw[show(true == true)=true from rfl];refine Od ?_;refine Of (dj:=155) rfl rfl ?_;refine Od ?_;refine Of (dj:=155) rfl rfl ?_;refine KOps.neqT hz ?_;refine Of (dj:=155) rfl rfl ?_;refine Od ?_;refine cf ?_;refine Ke (dj:=158) rfl rfl rfl ?_;refine Ke (dj:=158) rfl rfl rfl ?_;refine Of (dj:=155) rfl rfl ?_;refine Ks ?_;refine Ks ?_;refine Od ?_;refine Of (dj:=166) rfl rfl ?_;refine Kf (by intro _ _ hr; exact hr.2) (works_c (hV4.ext hS.keeps)) ?_;rintro _ hw ⟨rfl,hK⟩;replace hS:St _ _ _:=St.trans hS (St.ofK hK)
         try simp only[dF] at hS
         refine Ks ?_;refine On ?_;refine Om [8] ?_;refine Qa ?_;refine fnQ.ret1 ?_;exact⟨rfl,hk0.trans (hk62.trans (hk92.trans hS.keeps))⟩
end Go.Am
namespace Go.Am
theorem wf_u16 {a:Int} (h:(Lit.int .u16 a).wf=true) : 0≤a∧a≤65535:=by
 simp[Lit.wf,IntKind.min,IntKind.max,IntKind.signed,IntKind.bits] at h;omega
theorem law_read {h : AHeap} {v1 : AV} {y1 : List Q4} {a b : Int} {c : Bool} (hv1 : Rd h v1 4 (flr qc y1)) (hy1 : ∀ q ∈ y1, q.Ok) (ha : (Lit.int .u16 a).wf = true) (hb : (Lit.int .u8 b).wf = true) (hz : Vs h) :
    ACalls Go.Proofs.Tryz.prog 10 [v1,.int .u16 a,.int .u8 b,.bool c] h (fun q h'=>q = .bool true∧Keeps h h'):=by
 have ha2:=wf_u16 ha;obtain⟨n,rfl⟩:∃ n:Nat,a=n:=⟨a.toNat,by omega⟩;obtain⟨b,rfl,hb2⟩:=J8 (Un hb);exact WS hv1 hy1 aA hb2 hz
end Go.Am
