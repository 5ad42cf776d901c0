/-
  Layer 14: what is told: moves.
  Conditions: none.
-/
import Derived.Test.YtgnogfjajnnaoaaGreatDoorCn
open Bool renaming false_eq_true → fF
open Classical renaming not_not → fH
open List renaming set_cons_succ → dW, getD_eq_getElem?_getD → dX, set_cons_zero → dZ, length_append → fA, length_singleton → fE, mem_of_getElem? → fI, perm_middle → fU, mem_map → fD, eraseIdx_cons_succ → fG, length_eraseIdx → fK, length_dropLast → fM, dropLast_concat_getLast → fN, mem_singleton → fP, map_cons → fQ, getElem?_eq_some_iff → fR, mem_or_eq_of_mem_set → fS, getElem?_eq_getElem → fT, length_set → fV, map_append → fW, mem_append → fX, length_filter_le → gE, perm_append_comm → gI, take_append_drop → gO, map → gY, mem_append_left → gB, getElem?_set → gC, append_assoc → gD, take_add_one → gF, all_eq_true → gG, append_nil → gH
open List.Perm renaming append_left → fB, cons → fC, append_right → fZ, swap → gU
open Nat renaming le_of_ble_eq_true → dY, zero_add → fO, le_succ → fY, zero_le → fJ, not_lt_zero → fL, le_refl → gA
set_option maxRecDepth 99999
set_option maxHeartbeats 4000000
namespace Go.Am
theorem mput_at {κ ν:Type} [DecidableEq κ]:∀ {l:List (κ × ν)} {k : κ} (v : ν),k∈l.map (·.1)→Ke l k v=l.set (O2 (l.map (·.1)) k) (k,v):=by
 intro l
 induction l with
 | nil=>intro k v h; cases h
 | cons p l ih=>
  intro k v h;simp only[Ke,fQ,O2];by_cases e:k=p.1;rw[if_pos e,if_pos e]; rfl;rw[if_neg e,if_neg e,dW,ih v ((List.mem_cons.1 h).resolve_left e)]
theorem mdel_at {κ ν:Type} [DecidableEq κ]:∀ {l:List (κ × ν)} {k : κ},k∈l.map (·.1)→XQ l k=l.eraseIdx (O2 (l.map (·.1)) k):=by
 intro l
 induction l with
 | nil=>intro k h; cases h
 | cons p l ih=>
  intro k h;simp only[XQ,fQ,O2];by_cases e:k=p.1;rw[if_pos e,if_pos e]; rfl;rw[if_neg e,if_neg e,fG,ih ((List.mem_cons.1 h).resolve_left e)]
theorem zip_erase {α β:Type}:∀ (l:List α) (m:List β) (i:Nat),l.length=m.length→(l.zip m).eraseIdx i=(l.eraseIdx i).zip (m.eraseIdx i):=by
 intro l
 induction l with
 | nil=>intro m i h; cases m with
  | nil=>rfl
  | cons b m=>simp at h
 | cons a l ih=>intro m i h; cases m with
  | nil=>simp at h
  | cons b m=>cases i with
   | zero=>rfl
   | succ i=>simp only[List.zip_cons_cons,fG,ih m i (by simpa using h)]
def jx (O:Off) (p:Int):Nat:=O2 (O.packs.map (·.1)) p
theorem eraseIdx_map' {α β:Type} (f : α→β):∀ (l:List α) (i:Nat),(l.eraseIdx i).map f=(l.map f).eraseIdx i:=by
 intro l
 induction l with
 | nil=>intro i; rfl
 | cons a l ih=>intro i; cases i with
  | zero=>rfl
  | succ i=>simp only[fG,fQ,ih]
theorem getD_erase {α:Type} {l:List α} {i j:Nat} {d : α}:(l.eraseIdx j).getD i d=if i<j then l.getD i d else l.getD (i+1) d:=by
 rw[dX,List.getElem?_eraseIdx,dX,dX];split <;> rfl
theorem Js {O:Off} {p:Int} {d:Str × Int} (hm:Ou O.packs p=some d):O.tell (.move p 0)=({O with packs:=O.packs.eraseIdx (O2 (O.packs.map (·.1)) p)}:Off).mod d.1 (fun l=>{l with packs:=Xn p l.packs}):=by
 have hk:p∈O.packs.map (·.1):=by
  obtain⟨_,_,hx⟩:=X8 hm;exact fD.2 ⟨_,fI hx,rfl⟩
 unfold Off.tell;dsimp only;rw[hm];dsimp only;rw[if_pos rfl,mdel_at hk];rfl
theorem Jt {O:Off} {p s:Int} {d:Str × Int} (hm:Ou O.packs p=some d) (hs:s≠0):O.tell (.move p s) = {O with packs:=O.packs.set (O2 (O.packs.map (·.1)) p) (p,(d.1,s))}:=by
 have hk:p∈O.packs.map (·.1):=by
  obtain⟨_,_,hx⟩:=X8 hm;exact fD.2 ⟨_,fI hx,rfl⟩
 unfold Off.tell;dsimp only;rw[hm];dsimp only;rw[if_neg hs,mput_at _ hk]
theorem TB {A:OA} {O:Off} (hl:A.da.length=O.packs.length) (j:Nat):Qf (A.da.eraseIdx j) (O.packs.eraseIdx j)=(Qf A.da O.packs).eraseIdx j:=by
 unfold Qf;rw[zip_erase _ _ _ bE];rw[eraseIdx_map']
theorem Ju {ps:List (Int × (Str × Int))} {j:Nat} {x y:Int × (Str × Int)} (h:ps[j]? = some x) (e:y.1=x.1):(ps.set j y).map (·.1)=ps.map (·.1):=by
 rw[List.map_set,e];apply List.ext_getElem?;intro i;rw[gC];split;rename_i hi;subst hi;have hlt:=(fR.1 h).1;rw[if_pos (by simpa using hlt),List.getElem?_map,h];rfl;rfl
def base2 (A:OA) (O:Off) (w:Str) (j:Nat):List Obj:=Xm A O ++ (KT (A.la.eraseIdx (O2 (O.ways.map (·.1)) w)) (O.ways.eraseIdx (O2 (O.ways.map (·.1)) w)) ++ Qj (A.da.eraseIdx j) (O.packs.eraseIdx j))
theorem Wb {A : OA} {O : Off} (ok : AOk A O) {w : Str} {l : Lane} (hm : Ou O.ways w = some l) {j : Nat} {p : Int} {d : Str × Int} (hj : O.packs[j]? = some (p, d)) (G : List Obj) :
    (Ko A O ++ G).Perm (⟨A.da.getD j .bot,0,[.str (wd d.1),.int .i64 d.2],true⟩::(K4 (Q5 A O w) l ++ (base2 A O w j ++ G))):=by
 have h1:=Wa ok hm;have hlt:=(fR.1 hj).1;have h2:=UY A.da O.packs j ok.dl hlt;rw[show O.packs.getD j default=(p,d) by rw[dX,hj]; rfl] at h2;refine(fZ G h1).trans ?_;unfold V8 base2;have h3:(Xm A O ++ (KT (A.la.eraseIdx (O2 (O.ways.map (·.1)) w)) (O.ways.eraseIdx (O2 (O.ways.map (·.1)) w)) ++ Qj A.da O.packs)).Perm (⟨A.da.getD j .bot,0,[.str (wd d.1),.int .i64 d.2],true⟩::(Xm A O ++ (KT (A.la.eraseIdx (O2 (O.ways.map (·.1)) w)) (O.ways.eraseIdx (O2 (O.ways.map (·.1)) w)) ++ Qj (A.da.eraseIdx j) (O.packs.eraseIdx j)))):=by
  refine(fB _ (fB _ h2)).trans ?_;refine(fB _ fU).trans ?_;exact fU
 refine(fZ G (fB _ h3)).trans ?_;rw[gD];exact fU
theorem tellMove_c {h0 h:AHeap} {A:OA} {O:Off} {G:List Obj} (st:St h0 h (Ko A O ++ G)) (ok:AOk A O) (hW:WF O) {p s:Int} {d:Str × Int} {l:Lane} (hm:Ou O.packs p=some d) (hm2:Ou O.ways d.1=some l):ACalls Go.Proofs.Tryz.prog 266 [.agg [.int .i64 p,.int .i64 s],A.po] h (fun _ h'=>YZ h0 A (O.tell (.move p s)) G h'):=by
 refine ON 46 [] Go.Proofs.Tryz.func266 rfl aD rfl rfl (dY rfl) ?_;obtain⟨hjl,hjg,hjx⟩:=X8 hm;have hS3:=St.perm (Wb ok hm2 hjx G) st;have hla:LOk (Q5 A O d.1) l:=((St.roff st ok).way hm2).ok;have hda:AddrOf (Jd A O p) (Jd A O p) 0 0:=((St.roff st ok).pack hm).1;obtain⟨a,ha⟩:∃ a,Q5 A O d.1=a:=⟨_,rfl⟩;rw[ha] at hS3 hla;have hS:St h0 h (⟨Jd A O p,0,[.str (wd d.1),.int .i64 d.2],true⟩::⟨a.p,0,[.int .i64 (l.pl:Int),.int .i64 (l.fr:Int),.int .i64 (l.to:Int),a.told,a.top,a.packs,.bool l.paid],true⟩::⟨a.told,1,ints l.told.toList,a.t1⟩::⟨a.top,1,ints l.top.toList,a.t2⟩::⟨a.packs,1,ints l.packs,a.t3⟩::⟨A.po,0,[A.vr,A.vn,A.vw,A.vp,A.ve,A.vc],true⟩::⟨A.vr,1,wcs O.rooms,true⟩::⟨A.vn,1,wcs (O.ways.map (·.1)),true⟩::dmapO A.vw (entL kstr idV (Zn A.la O.ways))::dmapO A.vp (entL kint idV (Qf A.da O.packs))::dmapO A.ve (entL kint AV.bool (O.ever.map fun x=>(x,true)))::⟨A.vc,1,wcs O.claims,true⟩::(((KT (A.la.eraseIdx (O2 (O.ways.map (·.1)) d.1)) (O.ways.eraseIdx (O2 (O.ways.map (·.1)) d.1)) ++ Qj (A.da.eraseIdx (jx O p)) (O.packs.eraseIdx (jx O p))) ++ G))):=hS3;clear hS3;have hpk:=hW.lpM hm2;show KA _ 46 _ _ [(0,.agg [.int .i64 p,.int .i64 s]),(1,A.po)] _;refine bx ?_;intro p2 h' hp2 hS;refine Oo [1,2] ?_;refine ct ?_;refine bl ?_;intro p8 hp8;refine Oh hp8 (hS.rd 6 rfl) rfl ?_;refine dA ?_;intro p10 hp10;refine Oh hp10 (hS.rd 0 rfl) rfl ?_;refine KOps.lookDeck (A:=A) (O:=O) (p:=p) EvK.eq (hS.rdD 10 rfl ok.vp) ok.dl ?_;rw[Yn hm];refine Oa [1,2,4] ?_;refine Od ?_;refine dA ?_;intro p14 hp14;refine Oh hp14 (hS.rd 0 rfl) rfl ?_;refine On hda ?_;refine Ob hda ?_;intro p17 hp17;refine KK hS rfl (i:=1) rfl hp17 aH aX ?_;intro h' hS;simp only[dZ,dW,fO] at hS;refine Oo [1,2,4] ?_;refine Ov ?_;refine dA ?_;intro p18 hp18;refine Oh hp18 (hS.rd 0 rfl) rfl ?_;refine Oa [1,2,4,20] ?_;refine Om ?_ ?_;intro c20;refine ct ?_;refine bl ?_;intro p23 hp23;refine Oh hp23 (hS.rd 6 rfl) rfl ?_;refine Oc ?_;refine On hda ?_;refine Ob hda ?_;intro p27 hp27;refine Oh hp27 (hS.rd 1 rfl) rfl ?_;refine QE (A:=A) (O:=O) (w:=d.1) EvK.eq (hS.rdD 9 rfl ok.vw) ok.ll ?_;rw[Qe hm2,ha];refine Oa [1,2,5] ?_;refine Od ?_;refine On hla.ad ?_;refine Ob hla.ad ?_;intro p33 hp33;refine Oh hp33 (hS.rd 2 rfl) rfl ?_;refine Ol rfl (UC (hS.rd 5 rfl) aA) ?_;rintro v35 h35 hS35;replace hS:St _ _ (_::_):=St.trans hS hS35;refine ZI ?_;refine Ol rfl (deleteP_c aA hS (fun hS x=>isPack_c hp2 (hS.rd 1 rfl))) ?_;rintro r37 h9 ⟨tip9,hS⟩;refine On hla.ad ?_;refine Ob hla.ad ?_;intro p39 hp39;refine KK hS rfl (i:=3) rfl hp39 (St.one hS (k:=0) rfl) aX ?_;intro h' hS;simp only[dZ,dW,fO] at hS;refine Oo [1,2] ?_;refine dD ?_;refine Oc ?_;refine bl ?_;intro p42 hp42;refine Oh hp42 (hS.rd 7 rfl) rfl ?_;refine dA ?_;intro p44 hp44;refine Oh hp44 (hS.rd 1 rfl) rfl ?_;refine KOps.delD0 (kf:=kint) (a:=p) (i:=11) EvK.eq hS ok.vp rfl rfl ?_;intro h' hS;simp only[dZ,dW,fO] at hS;refine Og ?_;refine Qi ?_;subst c20;have hS9:St h0 h' (⟨r37,1,ints (Xn p l.packs),tip9⟩::⟨p2,0,[.int .i64 p,.int .i64 0],true⟩::⟨Jd A O p,0,[.str (wd d.1),.int .i64 0],true⟩::⟨a.p,0,[.int .i64 (l.pl:Int),.int .i64 (l.fr:Int),.int .i64 (l.to:Int),a.told,a.top,r37,.bool l.paid],true⟩::⟨a.told,1,ints l.told.toList,a.t1⟩::⟨a.top,1,ints l.top.toList,a.t2⟩::⟨a.packs,1,ints l.packs,a.t3⟩::⟨A.po,0,[A.vr,A.vn,A.vw,A.vp,A.ve,A.vc],true⟩::⟨A.vr,1,wcs O.rooms,true⟩::⟨A.vn,1,wcs (O.ways.map (·.1)),true⟩::dmapO A.vw (entL kstr idV (Zn A.la O.ways))::dmapO A.vp (entL kint idV (XQ (Qf A.da O.packs) p))::dmapO A.ve (entL kint AV.bool (O.ever.map fun x=>(x,true)))::⟨A.vc,1,wcs O.claims,true⟩::(((KT (A.la.eraseIdx (O2 (O.ways.map (·.1)) d.1)) (O.ways.eraseIdx (O2 (O.ways.map (·.1)) d.1)) ++ Qj (A.da.eraseIdx (jx O p)) (O.packs.eraseIdx (jx O p))) ++ G))):=hS;have hP:=St.pickF (A:=[_,_,_,_,_,_,_]) (A':=[_,_,_,_]) 7 [3,4,5,0] rfl aD aD rfl hS9;clear hS hS9;have hk:p∈(Qf A.da O.packs).map (·.1):=by rw[Jn ok.dl]; exact fD.2 ⟨_,fI hjx,rfl⟩
 rw[mdel_at hk,Jn ok.dl,←TB ok.dl] at hP;have ok1:AOk {A with da:=A.da.eraseIdx (jx O p)} {O with packs:=O.packs.eraseIdx (jx O p)}:=by
  refine⟨ok.po,ok.vw,ok.vp,ok.ve,ok.ll,ok.lok,?_,?_⟩;show(A.da.eraseIdx (jx O p)).length=(O.packs.eraseIdx (jx O p)).length;rw[fK,fK,ok.dl];intro i hi;have hi2:i<O.packs.length - 1:=by
   have h3:i<(O.packs.eraseIdx (jx O p)).length:=hi;have h4:(O.packs.eraseIdx (jx O p)).length=O.packs.length - 1:=List.length_eraseIdx_of_lt hjl;exact Nat.lt_of_lt_of_eq h3 h4
  show AddrOf ((A.da.eraseIdx (jx O p)).getD i .bot) ((A.da.eraseIdx (jx O p)).getD i .bot) 0 0;rw[getD_erase];split;exact ok.dok i aA;exact ok.dok (i+1) aA
 have hu:=YK (A:={A with da:=A.da.eraseIdx (jx O p)}) (O:={O with packs:=O.packs.eraseIdx (jx O p)}) ok1 hW.nd hm2 (fun l=>{l with packs:=Xn p l.packs}) (a:={a with packs:=r37,t3:=tip9}) (by show a.p=(Q5 A O d.1).p; rw[ha]) G;rw[Js hm];exact⟨Vx {A with da:=A.da.eraseIdx (jx O p)} {O with packs:=O.packs.eraseIdx (jx O p)} d.1 {a with packs:=r37,t3:=tip9},rfl,Wn ok1 hW.nd hm2 (f:=fun l=>{l with packs:=Xn p l.packs}) ⟨hla.ad,hla.told,hla.top⟩,St.perm hu hP⟩;intro c20;refine Oy ?_;refine Qi ?_;have hP:=St.drop (A:=[_]) hS;have hjx2:(O.packs.set (jx O p) (p,(d.1,s)))[jx O p]? = some (p,(d.1,s)):=List.getElem?_set_self hjl;have hks:(O.packs.set (jx O p) (p,(d.1,s))).map (·.1)=O.packs.map (·.1):=Ju hjx rfl;have ok1:AOk A {O with packs:=O.packs.set (jx O p) (p,(d.1,s))}:=by
  refine⟨ok.po,ok.vw,ok.vp,ok.ve,ok.ll,ok.lok,?_,?_⟩;show A.da.length=(O.packs.set (jx O p) (p,(d.1,s))).length;rw[fV]; exact ok.dl;intro i hi;have h3:i<(O.packs.set (jx O p) (p,(d.1,s))).length:=hi;rw[fV] at h3;exact ok.dok i h3
 rw[Jt hm c20];refine⟨A,rfl,ok1,St.perm (Wb ok1 hm2 hjx2 G).symm ?_⟩;have he:(O.packs.set (jx O p) (p,(d.1,s))).eraseIdx (jx O p)=O.packs.eraseIdx (jx O p):=List.eraseIdx_set_eq;have hpe:Qf A.da (O.packs.set (jx O p) (p,(d.1,s)))=Qf A.da O.packs:=by unfold Qf; rw[hks]
 unfold base2 Xm;dsimp only;rw[he,hpe,show Q5 A {O with packs:=O.packs.set (jx O p) (p,(d.1,s))} d.1=a from ha];exact hP
end Go.Am
namespace Go.Am
def TOk : Tell → Prop
  | .bound _ n _=>0≤n∧n≤99
  | .claim _ n=>0≤n∧n≤99
  | _=>True
theorem numV_foldl (l:Str):∀ n:Int,0≤n→(∀ c∈l,48≤c.toNat)→0≤l.foldl (fun n c=>10*n+((c.toNat:Int) - 48)) n:=by
 induction l with
 | nil=>intro n hn _; exact hn
 | cons a l ih=>
  intro n hn h;rw[List.foldl_cons];have:=h a List.mem_cons_self;exact ih _ aA (fun c hc=>h c (List.mem_cons_of_mem _ hc))
theorem numV_nn {w:Str} {m:Nat} (h:KY w m=true) : 0≤Qb w:=by
 unfold KY at h;simp only[Bool.and_eq_true,gG,decide_eq_true_eq] at h;exact numV_foldl w 0 aD (fun c hc=>(h.2 c hc).1)
theorem YU {l:List Str} (h:l.length=3):∃ a b c,l = [a,b,c]:=by
 match l,h with
 | [a,b,c],_=>exact⟨a,b,c,rfl⟩
theorem readT_ok {line:Str} (h:KH line=0):TOk (KU line):=by
 unfold KH at h;unfold KU;dsimp only at h⊢;generalize OO 32 line=l at *;split at h;cases h;split at h;cases h;split at h;cases h;split at h;cases h;rename_i _ _ hf hlen;have hlen2:=fH.1 hlen;have key:OU (l.getD 0 []) = [119,110]→∀ t:Int→Tell,(∀ n,0≤n→n≤99→TOk (t n))→TOk (t (Vo (OU (l.getD 0 [])) (l.drop 1) 0)):=by
  intro hk t ht;rw[hk] at h hlen2⊢;obtain⟨a,b,c,rfl⟩:=YU (by simpa using hlen2);have e1:([a,b,c]:List Str).drop 1 = [b,c]:=rfl;rw[e1] at h⊢;have e2:Vo [119,110] [b,c] 0=Qb c:=rfl;rw[e2];split at h;rename_i h9; exact absurd h h9;rename_i h9;have h10:=fH.1 h9;split at h;cases h;rename_i hfar;simp only[KX] at h10;split at h10;split at h10;rename_i hb;have hb2:KY c 3=true:=by
   unfold Kp at hb;rw[if_neg aD] at hb;by_cases q:KY c 3=true;exact q;rw[if_neg q] at hb; cases hb
  refine ht _ (numV_nn hb2) ?_;simp only[Vj,Bool.or_false,Bool.or_eq_true,not_or] at hfar;have h11:=hfar.2;unfold Kz at h11;simp at h11;omega;rename_i hb; exact absurd h10 hb;rename_i hb; exact absurd h10 hb
 unfold QH;dsimp only;split;trivial;split;trivial;split;rename_i h1;refine key (by unfold OU; rcases h1 with h1|h1 <;> rw[h1] <;> decide) (fun n=>.bound (l.getD 1 []) n (decide (l.getD 0 []=OS))) ?_;intro n h1 h2;exact⟨h1,h2⟩;split;trivial;split;trivial;split;trivial;split;trivial;split;trivial;split;rename_i h1;refine key (by unfold OU; rw[h1]; decide) (fun n=>.claim (l.getD 1 []) n) ?_;intro n h1 h2;exact⟨h1,h2⟩;trivial
theorem mod_mem {O:Off} (nd:(O.ways.map (·.1)).Nodup) {w:Str} {l:Lane} (hm:Ou O.ways w=some l) {f:Lane→Lane}:∀ p∈(O.mod w f).ways,p∈O.ways∨p=(w,f l):=by
 obtain⟨hi,hg,hx⟩:=Xj hm;intro p hp;rw[show(O.mod w f).ways=Qh O.ways w f from rfl,YF f nd hx] at hp;exact fS hp
theorem Yu {O:Off} {w:Str} {l:Lane} (hm:Ou O.ways w=some l):(w,l)∈O.ways:=by
 obtain⟨_,_,hx⟩:=Xj hm;exact fI hx
theorem WF.mod {O : Off} (hW : WF O) {w : Str} {l : Lane} (hm : Ou O.ways w = some l) {f : Lane → Lane} (h1 : (f l).paid = true → (f l).told.isSome = true) (h2 : (f l).pl = l.pl) (h3 : (f l).packs.length ≤ 99) (h4 : (f l).fr = l.fr) (h5 : (f l).to = l.to)
    (h6 : 0≤(f l).lo∧(f l).lo≤(f l).hi∧(f l).hi≤99):WF (O.mod w f):=by
 obtain⟨hi,hg,hx⟩:=Xj hm;have hs:=YF f hW.nd hx;have hmem:=mod_mem hW.nd hm (f:=f);have hn:(O.mod w f).ways.map (·.1)=O.ways.map (·.1):=Qw _ _ _;refine⟨?_,?_,?_,hW.rooms,?_,hW.packs,?_,hW.ever,hW.claims,?_,hW.pnd,?_,?_,hW.pev⟩;rw[hn]; exact hW.nd;intro p hp;rcases hmem p hp with h|rfl
 exact hW.paid p h;exact h1;intro i hi2;have hi3:i<O.ways.length:=by have:i<(Qh O.ways w f).length:=hi2; rwa [Vm] at this
 show((Qh O.ways w f).getD i default).2.pl=i;rw[hs,dX,gC];split;rename_i he;subst he;show(f l).pl=_;rw[h2];have:=hW.pl _ hi;rw[hg] at this;exact this;rw[←dX];exact hW.pl i hi3;show(Qh O.ways w f).length≤12;rw[Vm]; exact hW.ways;intro p hp;rcases hmem p hp with h|rfl
 exact hW.lp p h;exact h3;intro p hp;rw[hn]; exact hW.home p hp;intro p hp;rcases hmem p hp with h|rfl
 exact hW.rk p h;show(f l).fr<_∧(f l).to<_∧(f l).fr≠(f l).to;rw[h4,h5];exact hW.rk _ (Yu hm);intro p hp;rcases hmem p hp with h|rfl
 exact hW.rg p h;exact h6
theorem Wm {O:Off} {w:Str} {f:Lane→Lane} {l:Lane} (h:O.tries w f l=0):(f l).lo≤(f l).hi:=by
 unfold Off.tries at h;split at h;cases h;omega
theorem Wg {O:Off} {r:Str} (h:O.wrong (.room r)=0):r ∉ O.rooms∧O.rooms.length≠6:=by
 have e:O.wrong (.room r)=if r∈O.rooms then 6 else if O.rooms.length=6 then 3 else 0:=rfl
 rw[e] at h;split at h;cases h;split at h;cases h;exact⟨by assumption,by assumption⟩
theorem JS {O:Off} {w f t:Str} (h:O.wrong (.way w f t)=0):w ∉ O.ways.map (·.1)∧f∈O.rooms∧t∈O.rooms∧f≠t∧O.ways.length≠12:=by
 rw[XC] at h;split at h;cases h;split at h;cases h;split at h;cases h;split at h;cases h;rename_i h1 h2 h3 h4;rw[not_or,fH,fH] at h2;exact⟨fun hc=>h1 (UH hc),h2.1,h2.2,h3,h4⟩
theorem Xi {O:Off} {w:Str} {n:Int} {g:Bool} (h:O.wrong (.bound w n g)=0):∃ l,Ou O.ways w=some l∧l.paid=false∧O.tries w (chB n g) l=0:=by
 by_cases ho:opE O w=0;obtain⟨l,hm,hp⟩:=Vp ho;exact⟨l,hm,hp,by rw[Ux hm hp] at h; exact h⟩;rw[J0 ho] at h; exact absurd h ho
theorem Yr {O:Off} {p:Int} {w:Str} (h:O.wrong (.pack p w)=0):p ∉ O.ever∧∃ l,Ou O.ways w=some l∧O.packs.length≠20∧l.packs.length<l.hi∧O.tries w (chP p) l=0:=by
 by_cases he:p∈O.ever;rw[Uy he] at h; cases h
 ·cases hm:Ou O.ways w with
  | none=>rw[Uz he hm] at h; cases h
  | some l=>
   rw[Y9 he hm] at h;split at h;cases h;split at h;cases h;exact⟨he,l,rfl,by assumption,by omega,h⟩
theorem XM {O:Off} {p s:Int} (h:O.wrong (.move p s)=0):∃ d,Ou O.packs p=some d:=by
 cases hm:Ou O.packs p with
 | none=>rw[Kq hm] at h; cases h
 | some d=>exact⟨d,rfl⟩
theorem XW {O:Off} {w:Str} {n:Int} (h:O.wrong (.claim w n)=0):∃ l,Ou O.ways w=some l∧l.paid=false:=by
 by_cases ho:opE O w=0;exact Vp ho;rw[Z2 ho] at h; exact absurd h ho
theorem Yq {O:Off} {w:Str} (h:O.wrong (.free w)=0):∃ l,Ou O.ways w=some l∧l.paid=false:=Vp (by rw[←wrong_free]; exact h)
theorem WF.homeM {O:Off} (hW:WF O) {p:Int} {d:Str × Int} (hm:Ou O.packs p=some d):∃ l,Ou O.ways d.1=some l:=by
 obtain⟨_,_,hx⟩:=X8 hm;have:=UH (hW.home _ (fI hx));exact Option.isSome_iff_exists.1 this
theorem ixOf_inj {κ:Type} [DecidableEq κ] {l:List κ} {a b : κ} (ha:a∈l) (hb:b∈l) (h:O2 l a=O2 l b):a=b:=by
 have h1:=Vl ha;have h2:=Vl hb;rw[h,h2] at h1;exact(Option.some.inj h1).symm
theorem WF.rgM {O:Off} (hW:WF O) {w:Str} {l:Lane} (hm:Ou O.ways w=some l) : 0≤l.lo∧l.lo≤l.hi∧l.hi≤99:=hW.rg _ (Yu hm)
theorem RV {α:Type} {l:List α} {x d : α} {i:Nat} (h:i<l.length):(l ++ [x]).getD i d=l.getD i d:=X6 _ h
theorem Y4 {α:Type} {l:List α} {x : α} (h:l.Nodup) (hx:x ∉ l):(l ++ [x]).Nodup:=by
 rw[List.nodup_append];refine⟨h,by simp,?_⟩;intro a ha b hb;simp at hb;subst hb;exact fun e=>hx (e ▸ ha)
theorem lane_hi99 {O:Off} (hW:WF O) {w:Str} {l:Lane} (hm:Ou O.ways w=some l) (hp:l.paid=false):l.top.getD 99≤99:=by
 have:=(hW.rgM hm).2.2;unfold Lane.hi at this;rw[if_neg bM] at this;exact this
theorem chB_lo {n:Int} {g:Bool} {l:Lane} (hp:l.paid=false):(chB n g l).paid=false:=by cases g <;> exact hp
theorem lo_nn (l:Lane) (hp:l.paid=false) : 0≤l.lo:=by
 unfold Lane.lo;rw[if_neg bM];split <;> omega
theorem wf_tell {O:Off} (hW:WF O) {t:Tell} (ht:TOk t) (h0:O.wrong t=0) (he:O.ever.length<100) (hc:O.claims.length<100):WF (O.tell t):=by
 cases t with
 | room r=>
  obtain⟨_,h2⟩:=Wg h0;have:=hW.rooms;refine⟨hW.nd,hW.paid,hW.pl,?_,hW.ways,hW.packs,hW.lp,hW.ever,hW.claims,hW.home,hW.pnd,?_,hW.rg,hW.pev⟩;show(O.rooms ++ [r]).length≤6;rw[fA,fE]; omega;intro p hp;obtain⟨h3,h4,h5⟩:=hW.rk p hp;show _<(O.rooms ++ [r]).length∧_<(O.rooms ++ [r]).length∧_;rw[fA,fE];exact⟨by omega,by omega,h5⟩
 | way w f t=>
  obtain⟨hw,hf,ht2,hft,h12⟩:=JS h0;have:=hW.ways;have hnew:∀ p∈(O.tell (.way w f t)).ways,p∈O.ways∨p=(w,⟨O.ways.length,O2 O.rooms f,O2 O.rooms t,none,none,[],false⟩):=by
   intro p hp;have hp2:p∈O.ways ++ [(w,⟨O.ways.length,O2 O.rooms f,O2 O.rooms t,none,none,[],false⟩)]:=hp;simpa using hp2
  refine⟨?_,?_,?_,hW.rooms,?_,hW.packs,?_,hW.ever,hW.claims,?_,hW.pnd,?_,?_,hW.pev⟩;show(gY (fun p:Str × Lane=>p.1) (O.ways ++ [_])).Nodup;rw[fW];exact Y4 hW.nd hw;intro p hp;rcases hnew p hp with h|rfl
  exact hW.paid p h;intro h; cases h;intro i hi;have hi2:i<O.ways.length+1:=by
   have h3:i<(O.ways ++ [_]).length:=hi;rwa [fA,fE] at h3
  show((O.ways ++ [_]).getD i default).2.pl=i;by_cases hlt:i<O.ways.length;rw[RV hlt]; exact hW.pl i hlt;obtain rfl:i=O.ways.length:=by omega
  simp;show(O.ways ++ [_]).length≤12;rw[fA,fE]; omega;intro p hp;rcases hnew p hp with h|rfl
  exact hW.lp p h;exact fJ _;intro p hp;show p.2.1∈gY (fun p:Str × Lane=>p.1) (O.ways ++ [_]);rw[fW];exact gB _ (hW.home p hp);intro p hp;rcases hnew p hp with h|rfl
  exact hW.rk p h;exact⟨YC hf,YC ht2,fun e=>hft (ixOf_inj hf ht2 e)⟩;intro p hp;rcases hnew p hp with h|rfl
  exact hW.rg p h;show(0:Int)≤0∧(0:Int)≤99∧(99:Int)≤99;decide
 | bound w n g=>
  obtain⟨l,hm,hp,htr⟩:=Xi h0;have htr2:=Wm htr;have hp2:(chB n g l).paid=false:=chB_lo hp;refine hW.mod hm (f:=chB n g) (fun h=>by rw[hp2] at h; cases h) (by cases g <;> rfl) (by cases g <;> exact hW.lp _ (Yu hm)) (by cases g <;> rfl) (by cases g <;> rfl) ⟨lo_nn _ hp2,htr2,?_⟩;have h99:=lane_hi99 hW hm hp;unfold Lane.hi;rw[if_neg (by rw[hp2]; decide)];cases g;exact h99;exact ht.2
 | pack p w=>
  obtain⟨hnev,l,hm,h20,hlt,htr⟩:=Yr h0;have htr2:=Wm htr;have hr:=hW.rgM hm;have hpk:=hW.packs;have hW2:WF (O.mod w (chP p)):=by
   refine hW.mod hm (f:=chP p) (hW.paid _ (Yu hm)) rfl ?_ rfl rfl ⟨?_,htr2,?_⟩;show(l.packs ++ [p]).length≤99;rw[fA,fE]; omega
   cases hpd:l.paid
   exact lo_nn _ hpd;have h1:=hr.1;unfold Lane.lo at h1⊢;rw[if_pos hpd] at h1;rw[if_pos (show(chP p l).paid=true from hpd)];exact h1;exact hr.2.2
  refine⟨hW2.nd,hW2.paid,hW2.pl,hW2.rooms,hW2.ways,?_,hW2.lp,?_,hW2.claims,?_,?_,hW2.rk,hW2.rg,?_⟩;show(O.packs ++ [_]).length≤20;rw[fA,fE]; omega;show(O.ever ++ [_]).length≤100;rw[fA,fE]; omega;intro q hq;have hq2:q∈O.packs ++ [(p,(w,1))]:=hq;rw[fX,fP] at hq2;rcases hq2 with h|rfl
  exact hW2.home q h;show w∈(Qh O.ways w (chP p)).map (·.1);rw[Qw];exact fD.2 ⟨_,Yu hm,rfl⟩;show(gY (fun p:Int × (Str × Int)=>p.1) (O.packs ++ [_])).Nodup;rw[fW];refine Y4 hW.pnd ?_;intro hc2;obtain⟨q,hq,he2⟩:=fD.1 hc2;have:=hW.pev q hq;rw[he2] at this;exact hnev this;intro q hq;show q.1∈O.ever ++ [p];have hq2:q∈O.packs ++ [(p,(w,1))]:=hq;rw[fX,fP] at hq2;rcases hq2 with h|rfl
  exact gB _ (hW.pev q h);simp
 | move p s=>
  obtain⟨d,hm⟩:=XM h0;obtain⟨l,hm2⟩:=hW.homeM hm;obtain⟨hjl,hjg,hjx⟩:=X8 hm;have hhome:=hW.home _ (fI hjx);have hev:=hW.pev _ (fI hjx);by_cases hs:s=0
  ·subst hs;rw[Js hm];have hsub:∀ q∈O.packs.eraseIdx (O2 (O.packs.map (·.1)) p),q∈O.packs:=fun q hq=>List.mem_of_mem_eraseIdx hq
   have hWp:WF {O with packs:=O.packs.eraseIdx (O2 (O.packs.map (·.1)) p)}:=by
    refine⟨hW.nd,hW.paid,hW.pl,hW.rooms,hW.ways,?_,hW.lp,hW.ever,hW.claims,fun q hq=>hW.home q (hsub q hq),?_,hW.rk,hW.rg,fun q hq=>hW.pev q (hsub q hq)⟩;show(O.packs.eraseIdx _).length≤20;have:=hW.packs;rw[fK];split <;> omega;show(gY (fun p:Int × (Str × Int)=>p.1) (O.packs.eraseIdx _)).Nodup;rw[eraseIdx_map'];exact hW.pnd.sublist (List.eraseIdx_sublist _ _)
   have hlp:=hW.lp _ (Yu hm2);have hr:=hW.rgM hm2;have hle:(Xn p l.packs).length≤l.packs.length:=gE _ _;refine hWp.mod hm2 (f:=fun l=>{l with packs:=Xn p l.packs}) (hW.paid _ (Yu hm2)) rfl (Nat.le_trans hle hlp) rfl rfl ?_
   cases hpd:l.paid with
   | true=>
    unfold Lane.lo Lane.hi at hr⊢;simp only[hpd,if_true] at hr⊢;exact hr
   | false=>
    refine⟨lo_nn _ rfl,?_,?_⟩
    ·unfold Lane.lo Lane.hi at hr⊢;simp only[hpd,fF,if_false] at hr⊢;have h2:=hr.2.1
     cases hto:l.told with
     | none=>rw[hto] at h2; dsimp only at h2⊢; omega
     | some n=>rw[hto] at h2; dsimp only at h2⊢; omega
    have h3:=hr.2.2;unfold Lane.hi at h3⊢;simp only[hpd,fF,if_false] at h3⊢;exact h3
  rw[Jt hm hs];have hks:(O.packs.set (O2 (O.packs.map (·.1)) p) (p,(d.1,s))).map (·.1)=O.packs.map (·.1):=Ju hjx rfl;have hmem:∀ q∈O.packs.set (O2 (O.packs.map (·.1)) p) (p,(d.1,s)),q∈O.packs∨q=(p,(d.1,s)):=fun q hq=>fS hq
  refine⟨hW.nd,hW.paid,hW.pl,hW.rooms,hW.ways,?_,hW.lp,hW.ever,hW.claims,?_,?_,hW.rk,hW.rg,?_⟩;show(O.packs.set _ _).length≤20;rw[fV]; exact hW.packs;intro q hq;rcases hmem q hq with h|rfl
  exact hW.home q h;exact hhome;show(gY (fun p:Int × (Str × Int)=>p.1) (O.packs.set _ _)).Nodup;rw[hks]; exact hW.pnd;intro q hq;rcases hmem q hq with h|rfl
  exact hW.pev q h;exact hev
 | claim w n=>
  obtain⟨l,hm,hp⟩:=XW h0;have hW2:WF (O.mod w (fun l=>{l with paid:=true,told:=some n})):=hW.mod hm (f:=fun l=>{l with paid:=true,told:=some n}) (fun _=>rfl) rfl (hW.lp _ (Yu hm)) rfl rfl ⟨ht.1,Int.le_refl _,ht.2⟩;refine⟨hW2.nd,hW2.paid,hW2.pl,hW2.rooms,hW2.ways,hW2.packs,hW2.lp,hW2.ever,?_,hW2.home,hW2.pnd,hW2.rk,hW2.rg,hW2.pev⟩;show(O.claims ++ [_]).length≤100;rw[fA,fE]; omega
 | free w=>
  obtain⟨l,hm,hp⟩:=Yq h0;have hlp:=hW.lp _ (Yu hm);refine hW.mod hm (f:=fun l=>{l with told:=none,top:=none}) (fun h=>by have h2:l.paid=true:=h; rw[hp] at h2; cases h2) rfl hlp rfl rfl ⟨lo_nn _ hp,?_,?_⟩;unfold Lane.lo Lane.hi;simp only[hp,fF,if_false,Option.getD_none];have h3:l.packs.length≤99:=hlp;omega;unfold Lane.hi;simp only[hp,fF,if_false,Option.getD_none];decide
theorem tell_ever (O:Off) (t:Tell):(O.tell t).ever.length≤O.ever.length+1∧(O.tell t).claims.length≤O.claims.length+1:=by
 cases t with
 | pack p w=>exact⟨by show(O.ever ++ [_]).length≤_; rw[fA]; exact gA _,fY _⟩
 | claim w n=>exact⟨fY _,by show(O.claims ++ [_]).length≤_; rw[fA]; exact gA _⟩
 | move p s=>
  unfold Off.tell;dsimp only;split;exact⟨fY _,fY _⟩;split <;> exact⟨fY _,fY _⟩
 | _=>exact⟨fY _,fY _⟩
theorem Zg {lines:List Str} {line:Str} (h:O7 lines line=0):KH line=0∧(after lines).wrong (KU line)=0∧lines.length≠100:=by
 unfold O7 at h;dsimp only at h;by_cases hr:KH line=0;simp only[if_pos hr] at h;by_cases h2:(after lines).wrong (KU line)=0∧lines.length=100;rw[if_pos h2] at h; exact absurd h aD;rw[if_neg h2] at h;exact⟨hr,h,fun h3=>h2 ⟨h,h3⟩⟩;simp only[if_neg hr] at h;rw[if_neg (fun hx=>hr hx.1)] at h;exact absurd h hr
theorem wf_off0:WF VT:=by
 refine⟨by decide,?_,?_,by decide,by decide,by decide,?_,by decide,by decide,?_,by decide,?_,?_,?_⟩ <;> intro p hp <;> cases hp
theorem Done.wf {lines:List Str} (hD:Done lines):WF (after lines)∧lines.length≤100∧(after lines).ever.length≤lines.length∧(after lines).claims.length≤lines.length:=by
 induction hD with
 | nil=>exact⟨wf_off0,by decide,by decide,by decide⟩
 | @snoc lines line hD he ih=>
  obtain⟨h1,h2,h3⟩:=Zg he;obtain⟨ih1,ih2,ih3,ih4⟩:=ih;have ht:=tell_ever (after lines) (KU line);rw[Zx,fA,fE];exact⟨wf_tell ih1 (readT_ok h1) h2 aA aA,by omega,by omega,by omega⟩
end Go.Am
namespace Go.Am
theorem St.on {h0 h h':AHeap} {objs:List Obj} (st:St h0 h objs) (k:Keeps h h'):St h0 h' objs:=by
 have:=St.trans st (St.ofK k);simpa only[List.nil_append] using this
theorem wrongs {h0 h : AHeap} {A : OA} {O : Off} {G : List Obj} (st : St h0 h (Ko A O ++ G)) (ok : AOk A O) (hW : WF O) (t : Tell) :
    ∃ ty x f,KV t = .ifc ty x∧YJ Go.Proofs.Tryz.prog ty "spadille/master.wrong" = some f∧ACalls Go.Proofs.Tryz.prog f [x,A.po] h (fun q h'=>q = .int .i64 (O.wrong t)∧St h0 h' (Ko A O ++ G)):=by
 have r:=St.roff st ok;have up:∀ {f:FuncId} {args:List AV} {v:AV},ACalls Go.Proofs.Tryz.prog f args h (fun q h'=>q=v∧Keeps h h')→ACalls Go.Proofs.Tryz.prog f args h (fun q h'=>q=v∧St h0 h' (Ko A O ++ G)):=
  fun hc=>hc.mono fun _ _ ⟨h1,h2⟩=>⟨h1,st.on h2⟩
 cases t with
 | room w=>exact⟨_,_,_,rfl,by kernel_rfl,up (TL r hW)⟩
 | way w f t=>exact⟨_,_,_,rfl,by kernel_rfl,up (wrongWay_c r hW)⟩
 | bound w n g=>exact⟨_,_,_,rfl,by kernel_rfl,Ti st ok hW⟩
 | pack p w=>exact⟨_,_,_,rfl,by kernel_rfl,TK st ok hW⟩
 | move p s=>exact⟨_,_,_,rfl,by kernel_rfl,up (TJ r hW)⟩
 | claim w n=>exact⟨_,_,_,rfl,by kernel_rfl,up (Tj r hW)⟩
 | free w=>exact⟨_,_,_,rfl,by kernel_rfl,up (TI r hW)⟩
theorem tells {h0 h : AHeap} {A : OA} {O : Off} {G : List Obj} (st : St h0 h (Ko A O ++ G)) (ok : AOk A O) (hW : WF O) (t : Tell) (hr : O.wrong t = 0) :
    ∃ ty x f,KV t = .ifc ty x∧YJ Go.Proofs.Tryz.prog ty "spadille/master.tell" = some f∧ACalls Go.Proofs.Tryz.prog f [x,A.po] h (fun _ h'=>YZ h0 A (O.tell t) G h'):=by
 cases t with
 | room w=>exact⟨_,_,_,rfl,by kernel_rfl,tellRoom_c st ok hW⟩
 | way w f t=>
  obtain⟨h1,h2,h3,_⟩:=JS hr;exact⟨_,_,_,rfl,by kernel_rfl,tellWay_c st ok hW h1 h2 h3⟩
 | bound w n g=>
  obtain⟨l,hm,_⟩:=Xi hr;exact⟨_,_,_,rfl,by kernel_rfl,TF st ok hW hm⟩
 | pack p w=>
  obtain⟨he,l,hm,_⟩:=Yr hr;exact⟨_,_,_,rfl,by kernel_rfl,tellPack_c st ok hW hm (fun hc=>by obtain⟨q,hq,e⟩:=fD.1 hc; exact he (e ▸ hW.pev q hq)) he⟩
 | move p s=>
  obtain⟨d,hm⟩:=XM hr;obtain⟨l,hm2⟩:=hW.homeM hm;exact⟨_,_,_,rfl,by kernel_rfl,tellMove_c st ok hW hm hm2⟩
 | claim w n=>
  obtain⟨l,hm,_⟩:=XW hr;exact⟨_,_,_,rfl,by kernel_rfl,TG st ok hW hm⟩
 | free w=>
  obtain⟨l,hm,_⟩:=Yq hr;exact⟨_,_,_,rfl,by kernel_rfl,tellFree_c st ok hW hm⟩
def ZN (b vl:AV) (A:OA) (lines:List Str):List Obj:=⟨b,0,[A.po,vl],true⟩::⟨vl,1,wcs lines,true⟩::Ko A (after lines)
structure BOk2 (b:AV) (A:OA) (lines:List Str):Prop where
  ad:AddrOf b b 0 0
  ok:AOk A (after lines)
  done:Done lines
def Bk (h0 h:AHeap) (b:AV) (lines:List Str) (G:List Obj):Prop:=∃ vl A,BOk2 b A lines∧St h0 h (ZN b vl A lines ++ G)
theorem Y5 {α:Type} (x y : α) (L G:List α):((x::y::L) ++ G).Perm (L ++ x::y::G):=by
 refine List.Perm.trans ?_ fU.symm;exact fC x fU.symm
structure RBk (h:AHeap) (b vl:AV) (A:OA) (lines:List Str):Prop where
  done:Done lines
  ad:AddrOf b b 0 0
  rd:Rd h b 0 [A.po,vl]
  log:WRow h vl lines
  off:ROff h A (after lines)
theorem RBk.ext {h h':AHeap} {b vl:AV} {A:OA} {lines:List Str} (r:RBk h b vl A lines) (k:Keeps h h'):RBk h' b vl A lines:=⟨r.done,r.ad,r.rd.ext k,r.log.ext k,r.off.ext k⟩
theorem RBk.bk {h:AHeap} {b vl:AV} {A:OA} {lines:List Str} (r:RBk h b vl A lines):RBook h b vl A:=⟨r.ad,r.rd⟩
theorem St.rbk {h0 h:AHeap} {b vl:AV} {A:OA} {lines:List Str} {G:List Obj} (st:St h0 h (ZN b vl A lines ++ G)) (hb:BOk2 b A lines):RBk h b vl A lines:=
  ⟨hb.done,hb.ad,st.rd 0 rfl,st.rd 1 rfl,St.roff (G:=_::_::G) (St.perm (Y5 _ _ _ _) st) hb.ok⟩
theorem RBk.wf {h:AHeap} {b vl:AV} {A:OA} {lines:List Str} (r:RBk h b vl A lines):WF (after lines):=r.done.wf.1
end Go.Am
namespace Go.Am
theorem opened_c {h:AHeap}:ACalls Go.Proofs.Tryz.prog 64 [] h (fun q h'=>∃ A,q=A.po∧AOk A VT∧St h h' (Ko A VT)):=by
 refine ON 6 [.tmp 0] Go.Proofs.Tryz.func64 rfl aD rfl rfl (dY rfl) ?_;have hS:=St.refl h;show KA _ 6 _ _ [] _;refine Oa [] ?_;refine Ov ?_;refine KOps.makeMapD hS rfl ?_;intro v1 h' hv1 hS;refine KOps.makeMapD hS rfl ?_;intro v2 h' hv2 hS;refine KOps.makeMapD hS rfl ?_;intro v3 h' hv3 hS;have ho1:v1.one=true:=by obtain⟨_,rfl⟩:=hv1; rfl
 have ho2:v2.one=true:=by obtain⟨_,rfl⟩:=hv2; rfl
 have ho3:v3.one=true:=by obtain⟨_,rfl⟩:=hv3; rfl
 refine Kc (zs:=[.nils,.nils,.nilm,.nilm,.nilm,.nils]) (cs:=[_,_,_,_,_,_]) aE aM aE (.cons (off:=2) (s:=1) aE (AV.cells_one aH) rfl aD (.cons (off:=3) (s:=1) aE (AV.cells_one aH) rfl aD (.cons (off:=4) (s:=1) aE (AV.cells_one aH) rfl aD .nil))) aM ?_;refine O6 hS (by show(true && (true && (v1.one && (v2.one && (v3.one && (true && true))))))=true; rw[ho1,ho2,ho3]; rfl) ?_;intro p5 h' hp5 hS;refine Oa [0] ?_;refine Oj ?_;have hS1:=St.addNil 1 true (St.addNil 1 true (St.addNil 1 true hS));have hS2:=St.pick (objs':=Ko ⟨p5,.nils,.nils,v1,v2,v3,.nils,[],[]⟩ VT) [0,4,5,3,2,1,6] aD rfl hS1;exact⟨_,rfl,⟨hp5,hv1,hv2,hv3,rfl,fun i hi=>absurd hi (fL i),rfl,fun i hi=>absurd hi (fL i)⟩,hS2⟩
theorem new_c {h:AHeap}:ACalls Go.Proofs.Tryz.prog 16 [] h (fun b h'=>Bk h h' b [] []):=by
 refine ON 4 [.tmp 0] Go.Proofs.Tryz.func16 rfl aD rfl rfl (dY rfl) ?_;have hS:=St.refl h;show KA _ 4 _ _ [] _;refine Oa [] ?_;refine Ov ?_;refine Ol rfl (opened_c) ?_;rintro _ h5 ⟨A,rfl,ok,hS5⟩;clear hS;have hS:=hS5;have hpo:A.po.one=true:=by obtain⟨_,_,e⟩:=J7 ok.po; rw[e]; rfl
 refine Kc (zs:=[.nilp,.nils]) (cs:=[_,_]) aE aM aE (.cons (off:=0) (s:=1) aE (AV.cells_one aH) rfl aD .nil) aM ?_;refine O6 hS (by show(A.po.one && true)=true; rw[hpo]; rfl) ?_;intro p3 h' hp3 hS;refine Oa [0] ?_;refine Oj ?_;have hS1:=St.addNil 1 true hS;refine⟨.nils,A,⟨hp3,ok,.nil⟩,St.perm ?_ hS1⟩;show((_::Ko A VT) ++ [_]).Perm _;rw[ZN,gH];exact fC _ (gI (l₁:=Ko A VT) (l₂:=[_]))
theorem Rw {h0 h:AHeap} {b vl:AV} {A:OA} {lines:List Str} {G:List Obj} {line:Str} (hb:BOk2 b A lines) (st:St h0 h (ZN b vl A lines ++ G)) (hV:Vs h) (hl:line.length≤1000000):ACalls Go.Proofs.Tryz.prog 70 [b,.str (wd line)] h (fun q h'=>∃ v,q = .tup [v,.int .i64 (O7 lines line)]∧(O7 lines line=0→v=KV (KU line))∧St h0 h' (ZN b vl A lines ++ G)):=by
 refine ON 38 [.tmp 4,.tmp 5] Go.Proofs.Tryz.func70 rfl aD rfl rfl (dY rfl) ?_;have hS:=st;have hwf:=hb.done.wf.1;have hll:=hb.done.wf.2.1;show KA _ 38 _ _ [(0,b),(1,.str (wd line))] _;refine bz ?_;refine Ol rfl (YS (St.rbk hS hb).bk hb.ok.po) ?_;rintro _ _ ⟨rfl,rfl⟩;refine Oo [0,1,9] ?_;refine OP ?_;refine OC [0,1] ?_;refine Od ?_;refine Ol rfl (read_c hV.mx hl) ?_;rintro _ h8 ⟨⟨v,hv1,rfl,hv⟩,hK⟩;have hS0:=St.on hS hK;clear hS;have hS:=hS0;clear hS0;refine Oa [0,6,7] ?_;refine ZH (X:=AV) (fun y=>[(0,b),(6,y),(7,.int .i64 (if KH line=0 then (after lines).wrong (KU line) else KH line))]) (fun y h'=>(KH line=0→y=KV (KU line))∧St h0 h' (ZN b vl A lines ++ G)) ?_ ?_
 ·
   refine Oa [0,6,7,16] ?_;refine Om ?_ ?_;intro c16;obtain⟨ty,xx,f,hv2,hm1,hc1⟩:=wrongs (G:=_::_::G) (St.perm (Y5 _ _ _ _) hS) hb.ok hwf (KU line);rw[hv c16,hv2];refine dD ?_;refine cO ?_;intro p20 hp20;refine Oh hp20 (St.rbk hS hb).rd rfl ?_;refine KOps.makeFmeth ?_;refine KOps.nilMeth (by rw[hm1]; rfl) ?_;refine Oc ?_;refine KOps.callI rfl hm1 hc1 ?_;rintro _ h9 ⟨rfl,hS9⟩;clear hS;have hS:St h0 h9 (ZN b vl A lines ++ G):=St.perm (Y5 _ _ _ _).symm hS9;refine cF ?_;exact Qp _ (by repeat (first|exact Sub.nil _|refine Sub.cons Look.eq ?_|refine Sub.cons (Eq.trans Look.eq (congrArg (AV.int _) aJ)) ?_|refine Sub.cons (Eq.trans Look.eq (by rw[if_pos c16])) ?_)) ⟨by first|exact fun _=>rfl|exact fun _=>hv2.symm,hS⟩;intro c16;refine Oy ?_;exact Qp _ (by repeat (first|exact Sub.nil _|refine Sub.cons Look.eq ?_|refine Sub.cons (Eq.trans Look.eq (congrArg (AV.int _) aJ)) ?_|refine Sub.cons (Eq.trans Look.eq (by rw[if_neg c16])) ?_)) ⟨hv,hS⟩
 ·
   rintro y h7 ⟨hv7,hS⟩;refine Od ?_;refine Oz (dj:=28) rfl rfl true false rfl ?_ ?_;intro g28;have g28:=of_decide_eq_true g28;refine Od ?_;refine On hb.ad ?_;refine Oe (dj:=28) rfl rfl ?_;refine Ob hb.ad ?_;intro p31 hp31;refine Oe (dj:=28) rfl rfl ?_;refine Oh hp31 (St.rbk hS hb).rd rfl ?_;refine Oe (dj:=28) rfl rfl ?_;refine O0 (St.rbk hS hb).log ?_;refine Oa [6,7,35] ?_;refine Om ?_ ?_;intro c35;refine Oa [6,7] ?_;refine cA ?_;have ha:O7 lines line=16:=if_pos ⟨g28,by omega⟩;exact⟨y,by rw[ha],fun h=>by rw[ha] at h; exact absurd h aD,hS⟩;intro c35;refine OC [6,7] ?_;refine cA ?_;have ha:O7 lines line=(if KH line=0 then (after lines).wrong (KU line) else KH line):=if_neg (fun hx=>c35 aA);exact⟨y,by rw[ha],fun h=>hv7 (Zg h).1,hS⟩;intro g28;have g28:=of_decide_eq_false g28;refine Oa [6,7,35] ?_;refine OP ?_;refine OC [6,7] ?_;refine cA ?_;have ha:O7 lines line=(if KH line=0 then (after lines).wrong (KU line) else KH line):=if_neg (fun hx=>g28 hx.1);exact⟨y,by rw[ha],fun h=>hv7 (Zg h).1,hS⟩
theorem WJ {h0 h:AHeap} {b vl:AV} {A:OA} {lines:List Str} {G:List Obj} {line:Str} (hb:BOk2 b A lines) (st:St h0 h (ZN b vl A lines ++ G)) (hV:Vs h) (hl:line.length≤1000000):ACalls Go.Proofs.Tryz.prog 20 [b,.str (wd line)] h (fun q h'=>q = .int .i64 (O7 lines line)∧St h0 h' (ZN b vl A lines ++ G)):=by
 refine ON 14 [.tmp 4] Go.Proofs.Tryz.func20 rfl aD rfl rfl (dY rfl) ?_;have hS:=st;show KA _ 14 _ _ [(0,b),(1,.str (wd line))] _;refine bz ?_;refine Ol rfl (Rw hb hS hV hl) ?_;rintro _ h8 ⟨v,rfl,hv,hS8⟩;clear hS;have hS:=hS8;refine Oa [6] ?_;refine bY ?_;exact⟨rfl,hS⟩
theorem X3 {h0 h:AHeap} {b vl:AV} {A:OA} {lines:List Str} {G:List Obj} {line:Str} (hb:BOk2 b A lines) (st:St h0 h (ZN b vl A lines ++ G)) (hV:Vs h) (hl:line.length≤1000000):ACalls Go.Proofs.Tryz.prog 21 [b,.str (wd line)] h (fun q h'=>q = .int .i64 (O7 lines line)∧Bk h0 h' b (doL lines line) G):=by
 refine ON 35 [.tmp 4] Go.Proofs.Tryz.func21 rfl aD rfl rfl (dY rfl) ?_;have hS:=st;have hwf:=hb.done.wf.1;have hll:=hb.done.wf.2.1;show KA _ 35 _ _ [(0,b),(1,.str (wd line))] _;refine bz ?_;refine Ol rfl (Rw hb hS hV hl) ?_;rintro _ h8 ⟨v,rfl,hv,hS8⟩;clear hS;have hS:=hS8;refine Oa [0,1,5,6] ?_;refine Oa [0,1,5,6,14] ?_;refine Kd ?_ ?_;intro c14;refine bY ?_;have hd:doL lines line=lines:=if_neg c14;rw[hd];exact⟨rfl,vl,A,hb,hS⟩
 ·intro c14;obtain⟨hre,hwr,h100⟩:=Zg c14;obtain⟨ty,xx,f,hv2,hm1,hc1⟩:=tells (G:=_::_::G) (St.perm (Y5 _ _ _ _) hS) hb.ok hwf (KU line) hwr;rw[hv c14,hv2];replace hS:St h0 _ (⟨b,0,[A.po,vl],true⟩::⟨vl,1,wcs lines,true⟩::(Ko A (after lines) ++ G)):=hS;refine OC [0,1,5] ?_;refine bf ?_;refine cO ?_;intro p19 hp19;refine Oh hp19 (hS.rd 0 rfl) rfl ?_;refine KOps.makeFmeth ?_;refine KOps.nilMeth (by rw[hm1]; rfl) ?_;refine Oc ?_;refine KOps.callI rfl hm1 hc1 ?_;rintro _ h9 ⟨A2,hpo,ok2,hS9⟩;clear hS;have hS:St h0 h9 (⟨b,0,[A.po,vl],true⟩::⟨vl,1,wcs lines,true⟩::(Ko A2 ((after lines).tell (KU line)) ++ G)):=St.perm (Y5 _ _ _ _).symm hS9;refine Oo [0,1] ?_;refine cO ?_;intro p28 hp28;refine Oh hp28 (hS.rd 0 rfl) rfl ?_;refine Oc ?_;refine bu ?_;intro v31 h' hS;refine Kw hS (fun _=>rfl) (i:=1) rfl aB ?_;intro r32 h' hr32 hS;refine On hb.ad ?_;refine Ob hb.ad ?_;intro p34 hp34;refine KK hS rfl (i:=0) rfl hp34 aH aX ?_;intro h' hS;simp only[dZ,dW,fO] at hS;refine Oo [] ?_;refine bj ?_;refine Oj ?_;have hd:doL lines line=lines ++ [line]:=if_pos c14;rw[hd];refine⟨by rw[c14],r32,A2,⟨hb.ad,by rw[Zx]; exact ok2,.snoc hb.done c14⟩,?_⟩;unfold ZN;rw[Zx,hpo];exact hS
end Go.Am
namespace Go.Am
def Off.bnd (O:Off) (w:Str):Int × Int × Int:=match Ou O.ways w with
  | none=>(0,0,2)
  | some l=>(l.lo,l.hi,0)
noncomputable def Off.spn (O:Off) (w:Str):Int × Int × Int:=match Ou O.ways w with
  | none=>(0,0,2)
  | some l=>(O.spLo l.pl,O.spHi l.pl,0)
def tup3 (x:Int × Int × Int):AV:=.tup [.int .i64 x.1,.int .i64 x.2.1,.int .i64 x.2.2]
theorem RE {O:Off} {w:Str} (h:Ou O.ways w=none):O.bnd w=(0,0,2):=by unfold Off.bnd; rw[h]
theorem RF {O:Off} {w:Str} {l:Lane} (h:Ou O.ways w=some l):O.bnd w=(l.lo,l.hi,0):=by unfold Off.bnd; rw[h]
theorem Tb {O:Off} {w:Str} (h:Ou O.ways w=none):O.spn w=(0,0,2):=by unfold Off.spn; rw[h]
theorem UN {O:Off} {w:Str} {l:Lane} (h:Ou O.ways w=some l):O.spn w=(O.spLo l.pl,O.spHi l.pl,0):=by unfold Off.spn; rw[h]
theorem linesB_c {h:AHeap} {b vl:AV} {A:OA} {lines:List Str} (r:RBk h b vl A lines):ACalls Go.Proofs.Tryz.prog 24 [b] h (fun q h'=>St h h' [⟨q,1,wcs lines,true⟩]):=by
 refine ON 10 [.tmp 2] Go.Proofs.Tryz.func24 rfl aD rfl rfl (dY rfl) ?_;have hwf:=r.wf;have hll:=r.done.wf.2.1;have hr6:=hwf.rooms;have hw12:=hwf.ways;show KA _ 10 _ _ [(0,b)] _;refine dH ?_;refine Ol rfl (YS r.bk r.off.ok.po) ?_;rintro _ _ ⟨rfl,rfl⟩;refine Oo [0,4] ?_;refine OP ?_;refine OC [0] ?_;refine cI ?_;intro p7 hp7;refine Oh hp7 r.rd rfl ?_;refine Ol rfl (UD r.log aA) ?_;rintro v h5 hS;refine bX ?_;exact hS
theorem roomsB_c {h:AHeap} {b vl:AV} {A:OA} {lines:List Str} (r:RBk h b vl A lines):ACalls Go.Proofs.Tryz.prog 35 [b] h (fun q h'=>St h h' [⟨q,1,wcs (after lines).rooms,true⟩]):=by
 refine ON 13 [.tmp 2] Go.Proofs.Tryz.func35 rfl aD rfl rfl (dY rfl) ?_;have hwf:=r.wf;have hll:=r.done.wf.2.1;have hr6:=hwf.rooms;have hw12:=hwf.ways;show KA _ 13 _ _ [(0,b)] _;refine dH ?_;refine Ol rfl (YS r.bk r.off.ok.po) ?_;rintro _ _ ⟨rfl,rfl⟩;refine Oo [0,4] ?_;refine OP ?_;refine OC [0] ?_;refine cI ?_;intro p7 hp7;refine Oh hp7 r.rd rfl ?_;refine cZ ?_;intro p10 hp10;refine Oh hp10 r.off.off rfl ?_;refine Ol rfl (UD r.off.rooms aA) ?_;rintro v h5 hS;refine bX ?_;exact hS
theorem WR {h:AHeap} {b vl:AV} {A:OA} {lines:List Str} (r:RBk h b vl A lines) {w:Str}:ACalls Go.Proofs.Tryz.prog 29 [b,.str (wd w)] h (fun q h'=>q=tup3 ((after lines).bnd w)∧h=h'):=by
 refine ON 24 [.tmp 4,.tmp 5,.tmp 6] Go.Proofs.Tryz.func29 rfl aD rfl rfl (dY rfl) ?_;have hwf:=r.wf;have hll:=r.done.wf.2.1;have hr6:=hwf.rooms;have hw12:=hwf.ways;show KA _ 24 _ _ [(0,b),(1,.str (wd w))] _;refine bz ?_;refine Ol rfl (way_c r.bk r.off) ?_;rintro _ _ ⟨rfl,rfl⟩;refine Oa [6,7] ?_;refine Oa [6,7,15] ?_;refine Kd ?_ ?_
 ·intro c15;have hnn:(Ou (after lines).ways w).isNone=true:=by
   cases hx:(Ou (after lines).ways w).isNone
   ·first|rfl|(exfalso; rw[hx] at c15; simp at c15; done)
   ·first|rfl|(exfalso; rw[hx] at c15; simp at c15; done)
  have hm:=XL hnn;refine Oa [4,5,6] ?_;refine Oj ?_;rw[RE hm,hnn]; exact⟨rfl,rfl⟩
 ·intro c15;have hnn:(Ou (after lines).ways w).isNone=false:=by
   cases hx:(Ou (after lines).ways w).isNone
   ·first|rfl|(exfalso; rw[hx] at c15; simp at c15; done)
   ·first|rfl|(exfalso; rw[hx] at c15; simp at c15; done)
  obtain⟨l,hm⟩:=XK hnn;rw[Qe hm];refine OC [7] ?_;refine Od ?_;refine Ol rfl (Ja (r.off.way hm) (hwf.paidM hm) (by have:=hwf.lpM hm; omega)) ?_;rintro _ _ ⟨rfl,rfl⟩;refine Oa [4,5] ?_;refine Oa [4,5,6] ?_;refine Oj ?_;rw[RF hm]; exact⟨rfl,rfl⟩
theorem spanB_c {h:AHeap} {b vl:AV} {A:OA} {lines:List Str} (r:RBk h b vl A lines) {w:Str}:ACalls Go.Proofs.Tryz.prog 30 [b,.str (wd w)] h (fun q h'=>q=tup3 ((after lines).spn w)∧Keeps h h'):=by
 refine ON 28 [.tmp 4,.tmp 5,.tmp 6] Go.Proofs.Tryz.func30 rfl aD rfl rfl (dY rfl) ?_;have hwf:=r.wf;have hll:=r.done.wf.2.1;have hr6:=hwf.rooms;have hw12:=hwf.ways;show KA _ 28 _ _ [(0,b),(1,.str (wd w))] _;refine bz ?_;refine Ol rfl (way_c r.bk r.off) ?_;rintro _ _ ⟨rfl,rfl⟩;refine Oa [0,6,7] ?_;refine Oa [0,6,7,15] ?_;refine Kd ?_ ?_
 ·intro c15;have hnn:(Ou (after lines).ways w).isNone=true:=by
   cases hx:(Ou (after lines).ways w).isNone
   ·first|rfl|(exfalso; rw[hx] at c15; simp at c15; done)
   ·first|rfl|(exfalso; rw[hx] at c15; simp at c15; done)
  have hm:=XL hnn;refine Oa [4,5,6] ?_;refine Oj ?_;rw[Tb hm,hnn]; exact⟨rfl,Keeps.refl _⟩
 ·intro c15;have hnn:(Ou (after lines).ways w).isNone=false:=by
   cases hx:(Ou (after lines).ways w).isNone
   ·first|rfl|(exfalso; rw[hx] at c15; simp at c15; done)
   ·first|rfl|(exfalso; rw[hx] at c15; simp at c15; done)
  obtain⟨l,hm⟩:=XK hnn;rw[Qe hm];refine OC [0,7] ?_;refine cI ?_;intro p20 hp20;refine Oh hp20 r.rd rfl ?_;refine Oc ?_;refine Ol rfl (Ue r.off hwf (r.off.way hm)) ?_;rintro _ h9 ⟨rfl,hK⟩;refine Oa [4,5] ?_;refine Oa [4,5,6] ?_;refine Oj ?_;rw[UN hm]; exact⟨rfl,hK⟩
end Go.Am
namespace Go.Am
theorem Done.of_snoc {lines:List Str} {x:Str} (h:Done (lines ++ [x])):Done lines∧O7 lines x=0:=by
 generalize hl:lines ++ [x]=l at h
 cases h with
 | nil=>simp at hl
 | @snoc l2 y hD he=>
  have e1:lines=l2∧x=y:=by
   have:=List.append_inj' hl rfl;exact⟨this.1,by simpa using this.2⟩
  obtain⟨rfl,rfl⟩:=e1;exact⟨hD,he⟩
theorem Done.prefx {lines more:List Str} (h:Done (lines ++ more)):Done lines:=by
 generalize hn:more.length=n at *
 induction n generalizing more with
 | zero=>rw[List.length_eq_zero_iff.1 hn,gH] at h; exact h
 | succ n ih=>
  have hne:more≠[]:=by intro e; rw[e] at hn; cases hn
  rw[←fN hne,←gD] at h;exact ih (Done.of_snoc h).1 (by rw[fM,hn]; rfl)
theorem Done.at {lines:List Str} (h:Done lines) {i:Nat} (hi:i<lines.length):O7 (lines.take i) (lines.getD i [])=0:=by
 have e:lines.take i ++ [lines.getD i []]=lines.take (i+1):=by
  rw[gF,dX,fT hi]; rfl
 have h2:Done (lines.take (i+1) ++ lines.drop (i+1)):=by rw[gO]; exact h
 have h3:=h2.prefx;rw[←e] at h3;exact(Done.of_snoc h3).2
theorem after_take {l:List Str} {i:Nat} (hi:i<l.length):after (l.take (i+1))=(after (l.take i)).tell (KU (l.getD i [])):=by
 rw[←Zx,gF,dX,fT hi];rfl
theorem permC {α:Type} (a b d c : α) (o v n : α) (F:List α):((([o,a,b,c] ++ F) ++ [v]) ++ [n] ++ [d]).Perm (o::v::n::a::b::c::d::F):=by
 have e1:(([o,a,b,c] ++ F) ++ [v]) ++ [n] ++ [d]=o::(([a,b,c] ++ F) ++ ([v,n] ++ [d])):=by simp
 rw[e1];refine fC o ?_;refine(gI (l₁:=[a,b,c] ++ F) (l₂:=[v,n] ++ [d])).trans ?_;show(v::n::d::([a,b,c] ++ F)).Perm (v::n::a::b::c::d::F);refine fC v (fC n ?_);exact(fU (l₁:=[a,b,c]) (a:=d) (l₂:=F)).symm
theorem cleared_c {h0 h:AHeap} {A:OA} {O:Off} {G:List Obj} (st:St h0 h (Ko A O ++ G)) (ok:AOk A O) :ACalls Go.Proofs.Tryz.prog 67 [A.po] h (fun _ h'=>YZ h0 A VT G h'):=by
 refine ON 23 [] Go.Proofs.Tryz.func67 rfl aD rfl rfl (dY rfl) ?_;have hS:St h0 h (⟨A.po,0,[A.vr,A.vn,A.vw,A.vp,A.ve,A.vc],true⟩::⟨A.vr,1,wcs O.rooms,true⟩::⟨A.vn,1,wcs (O.ways.map (·.1)),true⟩::dmapO A.vw (entL kstr idV (Zn A.la O.ways))::dmapO A.vp (entL kint idV (Qf A.da O.packs))::dmapO A.ve (entL kint AV.bool (O.ever.map fun x=>(x,true)))::⟨A.vc,1,wcs O.claims,true⟩::(((KT A.la O.ways ++ Qj A.da O.packs) ++ G))):=st;show KA _ 23 _ _ [(0,A.po)] _;refine Od ?_;refine bl ?_;intro p6 hp6;refine KK hS rfl (i:=0) rfl hp6 aH aX ?_;intro h' hS;simp only[dZ,dW,fO] at hS;refine bl ?_;intro p8 hp8;refine KK hS rfl (i:=0) rfl hp8 aH aX ?_;intro h' hS;simp only[dZ,dW,fO] at hS;refine bl ?_;intro p10 hp10;refine KK hS rfl (i:=0) rfl hp10 aH aX ?_;intro h' hS;simp only[dZ,dW,fO] at hS;refine Oo [0] ?_;refine Od ?_;refine bl ?_;intro p13 hp13;refine Oh hp13 (hS.rd 0 rfl) rfl ?_;refine KOps.clearD0 hS ok.vw rfl (i:=3) rfl ?_;intro h' hS;simp only[dZ,dW,fO] at hS;refine Oo [0] ?_;refine Od ?_;refine bl ?_;intro p17 hp17;refine Oh hp17 (hS.rd 0 rfl) rfl ?_;refine KOps.clearD0 hS ok.vp rfl (i:=4) rfl ?_;intro h' hS;simp only[dZ,dW,fO] at hS;refine Oo [0] ?_;refine Od ?_;refine bl ?_;intro p21 hp21;refine Oh hp21 (hS.rd 0 rfl) rfl ?_;refine KOps.clearD0 hS ok.ve rfl (i:=5) rfl ?_;intro h' hS;simp only[dZ,dW,fO] at hS;refine Og ?_;refine Qi ?_;have hP:=St.pickF (A:=[_,_,_,_,_,_,_]) (A':=[_,_,_,_]) 7 [0,3,4,5] rfl aD aD rfl hS;have hP0:St h0 h' ([⟨A.po,0,[.nils,.nils,A.vw,A.vp,A.ve,.nils],true⟩,dmapO A.vw [],dmapO A.vp [],dmapO A.ve []] ++ ((KT A.la O.ways ++ Qj A.da O.packs) ++ G)):=hP;have hP2:St h0 h' ([⟨A.po,0,[.nils,.nils,A.vw,A.vp,A.ve,.nils],true⟩,dmapO A.vw [],dmapO A.vp [],dmapO A.ve []] ++ G):=by
  have hx:=St.perm (List.perm_append_comm_assoc (l₁:=[⟨A.po,0,[.nils,.nils,A.vw,A.vp,A.ve,.nils],true⟩,dmapO A.vw [],dmapO A.vp [],dmapO A.ve []]) (l₂:=KT A.la O.ways ++ Qj A.da O.packs) (l₃:=G)) hP0;exact St.drop hx
 have hP3:=St.addNil 1 true (St.addNil 1 true (St.addNil 1 true hP2));exact⟨⟨A.po,.nils,.nils,A.vw,A.vp,A.ve,.nils,[],[]⟩,rfl,⟨ok.po,ok.vw,ok.vp,ok.ve,rfl,fun i hi=>absurd hi (fL i),rfl,fun i hi=>absurd hi (fL i)⟩,St.perm (permC _ _ _ _ _ _ _ _) hP3⟩
theorem undo_c {h0 h:AHeap} {b vl:AV} {A:OA} {lines:List Str} {G:List Obj} (hb:BOk2 b A lines) (st:St h0 h (ZN b vl A lines ++ G)) (hV:Vs h0) (hll:∀ x∈lines,x.length≤1000000):ACalls Go.Proofs.Tryz.prog 18 [b] h (fun q h'=>q = .int .i64 (if lines = [] then 4 else 0)∧Bk h0 h' b lines.dropLast G):=by
 refine ON 61 [.tmp 2] Go.Proofs.Tryz.func18 rfl aD rfl rfl (dY rfl) ?_;have hS:St h0 h (⟨b,0,[A.po,vl],true⟩::⟨vl,1,wcs lines,true⟩::(Ko A (after lines) ++ G)):=st;have hll2:=hb.done.wf.2.1;show KA _ 61 _ _ [(0,b)] _;refine Oa [0] ?_;refine bw ?_;refine Od ?_;refine Ol rfl (YS (St.rbk hS hb).bk hb.ok.po) ?_;rintro _ _ ⟨rfl,rfl⟩;refine Oa [0,7] ?_;refine OP ?_;refine cO ?_;intro p13 hp13;refine Oh hp13 (hS.rd 0 rfl) rfl ?_;refine O0 (hS.rd 1 rfl) ?_;refine Oa [0,10] ?_;refine Om ?_ ?_
 ·intro c10;have hnil:lines = []:=by cases lines with
   | nil=>rfl
   | cons a l=>simp at c10; omega
  refine bX ?_;subst hnil;exact⟨rfl,vl,A,hb,st⟩
 ·intro c10;have hnil:lines≠[]:=by intro e; subst e; exact c10 rfl
  have hlen : 0<lines.length:=List.length_pos_iff.2 hnil;have hdl2:lines.dropLast.length≤100:=by rw[fM]; omega
  have hdl:Done lines.dropLast:=(Done.of_snoc (x:=lines.getLast hnil) (by rw[fN hnil]; exact hb.done)).1;refine cD ?_;refine Ot [0] ?_;refine bf ?_;refine cO ?_;intro p20 hp20;refine Oh hp20 (hS.rd 0 rfl) rfl ?_;refine Oc ?_;refine On hb.ad ?_;refine Ob hb.ad ?_;intro p24 hp24;refine Oh hp24 (hS.rd 0 rfl) rfl ?_;refine O0 (hS.rd 1 rfl) ?_;refine Zr aC aC ?_;refine KOps.sliceHi (hS.rd 1 rfl) (m:=lines.length) (by simp[wcs]) aA aA ?_;intro v28 hv28;have hp28:WRow h v28 lines.dropLast:=by
   have hx:=Rd.part (hS.rd 1 rfl) hv28 (fJ _);have e:List.take (((lines.length:Int) - 1).toNat - 0) (List.drop 0 lines)=lines.dropLast:=by
    rw[List.drop_zero,List.dropLast_eq_take];congr 1;omega
   have e2:List.take ((((lines.length:Int) - 1).toNat - 0)*1) (List.drop (0*1) (wcs lines))=wcs lines.dropLast:=by
    rw[Nat.mul_one,Nat.zero_mul,←e];simp[wcs,List.map_take]
   simp only at hx;rw[e2] at hx;exact hx
  refine Ol rfl (UD hp28 (by rw[fM]; omega)) ?_;rintro v29 h29 hS29;replace hS:St _ _ (_::_):=St.trans hS hS29;refine On hb.ad ?_;refine Ob hb.ad ?_;intro p31 hp31;refine KK hS rfl (i:=1) rfl hp31 (St.one hS (k:=0) rfl) aX ?_;intro h' hS;simp only[dZ,dW,fO] at hS;refine Oo [0] ?_;refine cO ?_;intro p34 hp34;refine Oh hp34 (hS.rd 1 rfl) rfl ?_;have hS6:St h0 _ (⟨v29,1,wcs lines.dropLast,true⟩::⟨b,0,[A.po,v29],true⟩::⟨vl,1,wcs lines,true⟩::(Ko A (after lines) ++ G)):=hS;have hS7:=St.perm ((gU _ _ _).trans (fC _ (gU _ _ _))) hS6;have hS8:St h0 _ (⟨vl,1,wcs lines,true⟩::⟨b,0,[A.po,v29],true⟩::⟨v29,1,wcs lines.dropLast,true⟩::(Ko A (after lines) ++ G)):=St.perm (gU _ _ _) hS7;have hS9:=St.drop (A:=[_]) (B:=(⟨b,0,[A.po,v29],true⟩::⟨v29,1,wcs lines.dropLast,true⟩::Ko A (after lines)) ++ G) hS8;refine Ol rfl (cleared_c (St.perm (Y5 _ _ _ _) hS9) hb.ok) ?_;rintro _ h9 ⟨A2,hpo,ok2,hSA⟩;clear hS hS6 hS7 hS8 hS9;have hS:St h0 h9 (⟨b,0,[A.po,v29],true⟩::⟨v29,1,wcs lines.dropLast,true⟩::(Ko A2 VT ++ G)):=St.perm (Y5 _ _ _ _).symm hSA;refine Oo [0] ?_;refine cO ?_;intro p39 hp39;refine Oh hp39 (hS.rd 0 rfl) rfl ?_;refine O0 (hS.rd 1 rfl) ?_;refine Oa [0,40,41,42] ?_;refine OB ?_;refine Kg (X:=Nat × OA) (fun x=>[(0,b),(40,v29),(41,.int .i64 (lines.dropLast.length:Int)),(42,.int .i64 (x.1:Int))]) (fun x h'=>x.1≤lines.dropLast.length∧x.2.po=A.po∧AOk x.2 (after (lines.dropLast.take x.1))∧St h0 h' (⟨b,0,[A.po,v29],true⟩::⟨v29,1,wcs lines.dropLast,true⟩::(Ko x.2 (after (lines.dropLast.take x.1)) ++ G))) (fun x=>lines.dropLast.length - x.1) (0,A2) ?_ ?_;exact⟨fJ _,hpo,ok2,hS⟩;rintro⟨i,A3⟩ h10 ⟨hi,hpo3,ok3,hS⟩;dsimp only at hi hpo3 ok3 hS⊢;refine cS ?_;refine Om ?_ ?_
  ·intro c43;have hlt:i<lines.dropLast.length:=by omega
   refine OC [0,40,41,42] ?_;refine cj ?_;refine Ow (hS.rd 1 rfl) (j:=i) rfl aB ?_;intro p44 hp44;refine OM hp44 (hS.rd 1 rfl) aB ?_;refine Oa [0,4,40,41,42] ?_;refine Od ?_;refine Ol rfl (read_c (hV.ext hS.keeps).mx (hll _ ((List.dropLast_sublist lines).subset (getD_mem hlt)))) ?_;rintro _ h11 ⟨⟨v,hv1,rfl,hv⟩,hK⟩;have hS0:=St.on hS hK;clear hS;have hS:=hS0;clear hS0;refine Oa [0,5,40,41,42] ?_;refine dD ?_;have hae:=Done.at hdl hlt;obtain⟨hre,hwr,_⟩:=Zg hae;have hwf3:=(Done.prefx (more:=lines.dropLast.drop i) (by rw[gO]; exact hdl)).wf.1;obtain⟨ty,xx,f,hv2,hm1,hc1⟩:=tells (G:=_::_::G) (St.perm (Y5 _ _ _ _) hS) ok3 hwf3 (KU (lines.dropLast.getD i [])) hwr;rw[hv hre,hv2];rw[hpo3] at hc1;refine cO ?_;intro p54 hp54;refine Oh hp54 (hS.rd 0 rfl) rfl ?_;refine KOps.makeFmeth ?_;refine KOps.nilMeth (by rw[hm1]; rfl) ?_;refine Oc ?_;refine KOps.callI rfl hm1 hc1 ?_;rintro _ h12 ⟨A4,hpo4,ok4,hSB⟩;clear hS;have hS:St h0 h12 (⟨b,0,[A.po,v29],true⟩::⟨v29,1,wcs lines.dropLast,true⟩::(Ko A4 ((after (lines.dropLast.take i)).tell (KU (lines.dropLast.getD i []))) ++ G)):=St.perm (Y5 _ _ _ _).symm hSB;refine Og ?_;refine bZ ?_;refine Ot [0,40,41,42] ?_;refine bV ?_;have hat:=after_take hlt;refine lpN (i+1,A4) ⟨by dsimp only; omega,hpo4.trans hpo3,?_,?_⟩ aI;dsimp only; rw[hat]; exact ok4;dsimp only; rw[hat]; exact hS
  intro c43;refine cC ?_;have hie:i=lines.dropLast.length:=by omega
  subst hie;rw[List.take_of_length_le (gA _)] at ok3 hS;exact⟨by rw[if_neg hnil],v29,A3,⟨hb.ad,ok3,hdl⟩,by unfold ZN; rw[hpo3]; exact hS⟩
end Go.Am
namespace Go.Am
noncomputable def Off.sureB (O:Off) (p:Str × Lane):Bool:=decide (O.spLo p.2.pl=O.spHi p.2.pl)
noncomputable def Off.sureL (O:Off):List Str:=(O.ways.filter O.sureB).map (·.1)
def Off.pks (O:Off) (w:Str):List Int:=match Ou O.ways w with
  | none=>[]
  | some l=>l.packs
def Off.pksE (O:Off) (w:Str):Int:=if (Ou O.ways w).isNone then 2 else 0
def Off.stt (O:Off) (p:Int):Int × Int:=match Ou O.packs p with
  | none=>(0,2)
  | some d=>(d.2,0)
def Off.toldN (O:Off) (w:Str):Int:=match Ou O.ways w with
  | none=>0
  | some l=>l.told.getD 0
def Off.sumTo (O : Off) : Nat → Int
  | 0=>0
  | i+1=>O.sumTo i+O.toldN (O.claims.getD i [])
def Off.sum (O:Off):Int:=O.sumTo O.claims.length
def Clm (O:Off):Prop:=∀ w∈O.claims,∃ l,Ou O.ways w=some l∧l.paid=true
theorem Yb (ws:List (Str × Lane)) (w:Str) (f:Lane→Lane) (x:Str):Ou (Qh ws w f) x=if x=w then (Ou ws x).map f else Ou ws x:=by
 induction ws with
 | nil=>simp[Qh,Ou]
 | cons p ws ih=>
  unfold Qh at ih⊢;rw[fQ];by_cases hp:p.1=w;simp only[if_pos hp,Ou];by_cases hx:x=p.1;rw[if_pos hx,if_pos hx,if_pos (hx.trans hp)]; rfl;rw[if_neg hx,if_neg hx,ih];simp only[if_neg hp,Ou];by_cases hx:x=p.1;rw[if_pos hx,if_pos hx,if_neg (by rw[hx]; exact hp)];rw[if_neg hx,if_neg hx,ih]
theorem Clm.mod {O:Off} (hC:Clm O) {w:Str} {f:Lane→Lane} (h:∀ l,Ou O.ways w=some l→l.paid=true→(f l).paid=true):Clm (O.mod w f):=by
 intro x hx;obtain⟨l,hm,hp⟩:=hC x hx;show ∃ l,Ou (Qh O.ways w f) x=some l∧_;rw[Yb];by_cases hxw:x=w;subst hxw;rw[if_pos rfl,hm];exact⟨_,rfl,h l hm hp⟩;rw[if_neg hxw];exact⟨l,hm,hp⟩
theorem mget_snoc {l:List (Str × Lane)} {x:Str} {v:Lane} {p:Str × Lane} (h:Ou l x=some v):Ou (l ++ [p]) x=some v:=by
 induction l with
 | nil=>cases h
 | cons q l ih=>
  rw[List.cons_append,Ou];rw[Ou] at h;split;rename_i hq; rw[if_pos hq] at h; exact h;rename_i hq; rw[if_neg hq] at h; exact ih h
theorem clm_tell {O:Off} (hC:Clm O) {t:Tell} (h0:O.wrong t=0):Clm (O.tell t):=by
 cases t with
 | room r=>exact hC
 | way w f t=>
  intro x hx;obtain⟨l,hm,hp⟩:=hC x hx;exact⟨l,mget_snoc hm,hp⟩
 | bound w n g=>
  obtain⟨l,hm,hp,_⟩:=Xi h0;exact hC.mod (f:=chB n g) (fun l2 h1 h2=>by rw[hm] at h1; cases h1; rw[hp] at h2; cases h2)
 | pack p w=>exact Clm.mod (O:=O) hC (w:=w) (f:=chP p) (fun l _ h=>h)
 | move p s=>
  obtain⟨d,hm⟩:=XM h0;by_cases hs:s=0;subst hs;rw[Js hm];exact Clm.mod (O:={O with packs:=_}) hC (fun l _ h=>h);rw[Jt hm hs]; exact hC
 | claim w n=>
  obtain⟨l,hm,hp⟩:=XW h0;intro x hx;have hx2:x∈O.claims ++ [w]:=hx;rw[fX,fP] at hx2;show ∃ l,Ou (Qh O.ways w (fun l=>{l with paid:=true,told:=some n})) x=some l∧l.paid=true;rw[Yb];by_cases hxw:x=w;subst hxw;rw[if_pos rfl,hm];exact⟨_,rfl,rfl⟩;rw[if_neg hxw];exact hC x (hx2.resolve_right hxw)
 | free w=>
  obtain⟨l,hm,hp⟩:=Yq h0;exact hC.mod (f:=fun l=>{l with told:=none,top:=none}) (fun l2 _ h2=>h2)
theorem Done.clm {lines:List Str} (hD:Done lines):Clm (after lines):=by
 induction hD with
 | nil=>intro w hw; cases hw
 | @snoc lines line hD he ih=>
  obtain⟨h1,h2,h3⟩:=Zg he;rw[Zx];exact clm_tell ih h2
theorem bestTo_lt {p:Nat→Bool}:∀ {k b:Nat},QP p k=some b→b<k:=by
 intro k
 induction k with
 | zero=>intro b h; cases h
 | succ k ih=>
  intro b h;rw[QP] at h;split at h
  cases h; omega
  have:=ih h; omega
theorem Wi:∀ r:Nat,r≤6→∀ b:Nat,b<2 ^ r→(Ki b 6).all (fun x=>decide (0≤x∧x<r))=true:=by decide +kernel
theorem WQ {rm:Int} {ws:List W} {i:Int} {g:Bool} (h0 : 0≤rm) (h6:rm≤6):∀ x∈Kv rm ws i g,0≤x∧x<rm:=by
 intro x hx;unfold Kv at hx;split at hx;split at hx;cases hx;unfold JJ at hx;split at hx;cases hx;rename_i b hb;have:=gG.1 (Wi rm.toNat aA b (bestTo_lt hb)) x hx;simp only[decide_eq_true_eq] at this;omega;cases hx
theorem UT {rm:Int} {ws:List W} {i:Int} {g:Bool}:(Kv rm ws i g).length≤6:=by
 unfold Kv;split;split;exact fJ _;unfold JJ;split;exact fJ _;rename_i b hb;have:∀ n,(Ki b n).length≤n:=by
  intro n;unfold Ki;rw[List.length_map];exact Nat.le_trans (gE _ _) (by rw[List.length_range]; exact gA _)
 exact this 6;exact fJ _
def Off.rn (O:Off) (l:List Int):List Str:=l.map fun x=>O.rooms.getD x.toNat []
noncomputable def Off.whyE (O:Off) (w:Str) (n:Int):Int:=match Ou O.ways w with
  | none=>2
  | some l=>if O.spLo l.pl≤n∧n≤O.spHi l.pl then 13 else 0
noncomputable def Off.whyL (O:Off) (w:Str) (n:Int):List Str:=match Ou O.ways w with
  | none=>[]
  | some l=>if O.spLo l.pl≤n∧n≤O.spHi l.pl then [] else O.rn (Kv O.rm O.ws l.pl (decide (O.spHi l.pl<n)))
theorem packsB_c {h:AHeap} {b vl:AV} {A:OA} {lines:List Str} (r:RBk h b vl A lines) {w:Str}:ACalls Go.Proofs.Tryz.prog 32 [b,.str (wd w)] h (fun q h'=>∃ v,q = .tup [v,.int .i64 ((after lines).pksE w)]∧St h h' [⟨v,1,ints ((after lines).pks w),true⟩]):=by
 refine ON 22 [.tmp 4,.tmp 5] Go.Proofs.Tryz.func32 rfl aD rfl rfl (dY rfl) ?_;have hwf:=r.wf;have hll:=r.done.wf.2.1;have hr6:=hwf.rooms;have hw12:=hwf.ways;have hS:=St.refl h;show KA _ 22 _ _ [(0,b),(1,.str (wd w))] _;refine bz ?_;refine Ol rfl (way_c r.bk r.off) ?_;rintro _ _ ⟨rfl,rfl⟩;refine Oa [6,7] ?_;refine Oa [6,7,15] ?_;refine Kd ?_ ?_
 ·intro c15;have hnn:(Ou (after lines).ways w).isNone=true:=by
   cases hx:(Ou (after lines).ways w).isNone
   ·first|rfl|(exfalso; rw[hx] at c15; simp at c15; done)
   ·first|rfl|(exfalso; rw[hx] at c15; simp at c15; done)
  have hm:=XL hnn;refine cA ?_;have e1:(after lines).pks w = []:=by unfold Off.pks; rw[hm]
  have e2:(after lines).pksE w=2:=by unfold Off.pksE; rw[hnn]; rfl
  rw[hnn,e1,e2];exact⟨.nils,rfl,St.addNil 1 true hS⟩
 ·intro c15;have hnn:(Ou (after lines).ways w).isNone=false:=by
   cases hx:(Ou (after lines).ways w).isNone
   ·first|rfl|(exfalso; rw[hx] at c15; simp at c15; done)
   ·first|rfl|(exfalso; rw[hx] at c15; simp at c15; done)
  obtain⟨l,hm⟩:=XK hnn;rw[Qe hm];refine OC [6] ?_;refine Ov ?_;have rl:=r.off.way hm;refine Oc ?_;refine On rl.ok.ad ?_;refine Ob rl.ok.ad ?_;intro p19 hp19;refine Oh hp19 rl.rd rfl ?_;refine Ol rfl (UC rl.rpacks (by have:=hwf.lpM hm; omega)) ?_;rintro v21 h5 hS5;refine cA ?_;have e1:(after lines).pks w=l.packs:=by unfold Off.pks; rw[hm]
  have e2:(after lines).pksE w=0:=by unfold Off.pksE; rw[hnn]; rfl
  rw[e1,e2];exact⟨_,rfl,hS5⟩
theorem Tc {h:AHeap} {b vl:AV} {A:OA} {lines:List Str} (r:RBk h b vl A lines) {p:Int}:ACalls Go.Proofs.Tryz.prog 33 [b,.int .i64 p] h (fun q h'=>q = .tup [.int .i64 ((after lines).stt p).1,.int .i64 ((after lines).stt p).2]∧h=h'):=by
 refine ON 24 [.tmp 4,.tmp 5] Go.Proofs.Tryz.func33 rfl aD rfl rfl (dY rfl) ?_;have hwf:=r.wf;have hll:=r.done.wf.2.1;have hr6:=hwf.rooms;have hw12:=hwf.ways;have hS:=St.refl h;show KA _ 24 _ _ [(0,b),(1,.int .i64 p)] _;refine bz ?_;refine Ol rfl (YS r.bk r.off.ok.po) ?_;rintro _ _ ⟨rfl,rfl⟩;refine Oo [0,1,8] ?_;refine OP ?_;refine OC [0,1] ?_;refine cI ?_;intro p11 hp11;refine Oh hp11 r.rd rfl ?_;refine cZ ?_;intro p14 hp14;refine Oh hp14 r.off.off rfl ?_;refine Oc ?_;refine KOps.lookDeck (A:=A) (O:=after lines) (p:=p) EvK.eq r.off.packs r.off.ok.dl ?_;refine Oa [6] ?_;refine Od ?_;refine KOps.ptrEqB (Ou (after lines).packs p).isNone aE (RL r.off) (RK r.off) ?_;refine Oo [6,19] ?_;refine Km ?_ ?_;intro c19;have hm:=XL c19;refine cA ?_;have e1:(after lines).stt p=(0,2):=by unfold Off.stt; rw[hm]
 rw[e1]; exact⟨rfl,rfl⟩;intro c19;obtain⟨d,hm⟩:=XK c19;rw[Yn hm];refine OC [6] ?_;refine Od ?_;refine On (r.off.pack hm).1 ?_;refine Ob (r.off.pack hm).1 ?_;intro p22 hp22;refine Oh hp22 (r.off.pack hm).2 rfl ?_;refine cA ?_;have e1:(after lines).stt p=(d.2,0):=by unfold Off.stt; rw[hm]
 rw[e1]; exact⟨rfl,rfl⟩
end Go.Am
