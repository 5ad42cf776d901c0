/-
  Layer 14: how the office lies in memory.
  Conditions: none.
-/
import Derived.Test.YtgnogfjajnnaoaaGreatDoorOa
import Derived.Test.YtgnogfjajnnaoaaGreatDoorSPb
open Go.Utf8 renaming decode → dG
open List renaming getElem?_eq_getElem → dA, getD_eq_getElem?_getD → dE, append_assoc → dO, eraseIdx_cons_succ → dB, getD_cons_succ → dC, set_cons_zero → dD, set_cons_succ → dF, perm_append_comm → dH, mem_map → dJ, mem_of_getElem? → dK, map_cons → dL, getElem?_map → dM, getElem?_eq_some_iff → dN, getElem_mem → dP, length_map → dR, eraseIdx_set_eq → dT, mem_iff_getElem → dV, map_congr_left → dW, getElem?_set → dZ
open List.Perm renaming append_right → dU, append_left → dS, refl → fI
open Nat renaming le_of_ble_eq_true → dI, lt_succ_iff_lt_or_eq → dQ, zero_add → dX, not_lt_zero → fE
open Option renaming getD_some → dY, map_some → fA
set_option maxRecDepth 99999
set_option maxHeartbeats 4000000
namespace Go.Am
structure LA where
  p:AV
  told:AV
  top:AV
  packs:AV
  t1:Bool
  t2:Bool
  t3:Bool
instance:Inhabited LA:=⟨⟨.nilp,.nils,.nils,.nils,false,false,false⟩⟩
def lcells (a:LA) (l:Lane):List AV:=[.int .i64 (l.pl:Int),.int .i64 (l.fr:Int),.int .i64 (l.to:Int),a.told,a.top,a.packs,.bool l.paid]
def lobj (a:LA) (l:Lane):Obj:=⟨a.p,0,lcells a l,true⟩
def toldO (a:LA) (l:Lane):Obj:=⟨a.told,1,ints l.told.toList,a.t1⟩
def topO (a:LA) (l:Lane):Obj:=⟨a.top,1,ints l.top.toList,a.t2⟩
def UJ (a:LA) (l:Lane):Obj:=⟨a.packs,1,ints l.packs,a.t3⟩
def KR (a:LA) (l:Lane):List Obj:=[lobj a l,toldO a l,topO a l,UJ a l]
def KK : List LA → List (Str × Lane) → List Obj
  | a::la,p::ws=>KR a p.2 ++ KK la ws
  | _,_=>[]
structure LOk (a:LA) (l:Lane):Prop where
  ad:AddrOf a.p a.p 0 0
  told:l.told=none→a.told = .nils
  top:l.top=none→a.top = .nils
structure RLane (h:AHeap) (a:LA) (l:Lane):Prop where
  ok:LOk a l
  rd:Rd h a.p 0 (lcells a l)
  rtold:Row h a.told l.told.toList
  rtop:Row h a.top l.top.toList
  rpacks:Row h a.packs l.packs
theorem RLane.ext {h h':AHeap} {a:LA} {l:Lane} (r:RLane h a l) (k:Keeps h h'):RLane h' a l:=⟨r.ok,r.rd.ext k,r.rtold.ext k,r.rtop.ext k,r.rpacks.ext k⟩
theorem St.rlane {h0 h:AHeap} {a:LA} {l:Lane} {G:List Obj} (st:St h0 h (KR a l ++ G)) (ok:LOk a l):RLane h a l:=
  ⟨ok,st.rd 0 rfl,st.rd 1 rfl,st.rd 2 rfl,st.rd 3 rfl⟩
structure OA where
  po:AV
  vr:AV
  vn:AV
  vw:AV
  vp:AV
  ve:AV
  vc:AV
  la:List LA
  da:List AV
def Qc : List AV → List (Int × (Str × Int)) → List Obj
  | a::da,p::ps=>⟨a,0,[.str (wd p.2.1),.int .i64 p.2.2],true⟩::Qc da ps
  | _,_=>[]
def QY (la:List LA) (ws:List (Str × Lane)):List (Str × AV):=(ws.map (·.1)).zip (la.map (·.p))
def Qa (da:List AV) (ps:List (Int × (Str × Int))):List (Int × AV):=(ps.map (·.1)).zip da
abbrev kint (i:Int):AV:=.int .i64 i
abbrev idV (v:AV):AV:=v
def ZX (A:OA) (O:Off):List Obj:=
  ⟨A.po,0,[A.vr,A.vn,A.vw,A.vp,A.ve,A.vc],true⟩::⟨A.vr,1,wcs O.rooms,true⟩::⟨A.vn,1,wcs (O.ways.map (·.1)),true⟩::dmapO A.vw (entL kstr idV (QY A.la O.ways)) ::
  dmapO A.vp (entL kint idV (Qa A.da O.packs))::dmapO A.ve (entL kint AV.bool (O.ever.map fun x=>(x,true)))::⟨A.vc,1,wcs O.claims,true⟩ :: []
def Ke (A:OA) (O:Off):List Obj:=ZX A O ++ (KK A.la O.ways ++ Qc A.da O.packs)
structure AOk (A:OA) (O:Off):Prop where
  po:AddrOf A.po A.po 0 0
  vw:ZE A.vw
  vp:ZE A.vp
  ve:ZE A.ve
  ll:A.la.length=O.ways.length
  lok:∀ i,i<O.ways.length→LOk (A.la.getD i default) (O.ways.getD i default).2
  dl:A.da.length=O.packs.length
  dok:∀ i,i<O.packs.length→AddrOf (A.da.getD i .bot) (A.da.getD i .bot) 0 0
theorem UA (a:LA) (la:List LA) (p:Str × Lane) (ws:List (Str × Lane)):KK (a::la) (p::ws)=KR a p.2 ++ KK la ws:=rfl
theorem Vn:∀ (la:List LA) (ws:List (Str × Lane)) (i:Nat),la.length=ws.length→i<ws.length→(KK la ws).Perm (KR (la.getD i default) (ws.getD i default).2 ++ KK (la.eraseIdx i) (ws.eraseIdx i)):=by
 intro la
 induction la with
 | nil=>intro ws i hl hi; simp at hl; omega
 | cons a la ih=>
  intro ws i hl hi
  cases ws with
  | nil=>simp at hi
  | cons p ws=>
   cases i with
   | zero=>exact fI _
   | succ i=>
    have:=ih ws i aj af;rw[UA,dC,dC,dB,dB,UA];refine(dS _ this).trans ?_;rw[←dO,←dO];exact dU _ dH
theorem WM (la:List LA) (ws:List (Str × Lane)) (i:Nat) (hl:la.length=ws.length) (hi:i<ws.length) (a:LA) (p:Str × Lane):(KR a p.2 ++ KK (la.eraseIdx i) (ws.eraseIdx i)).Perm (KK (la.set i a) (ws.set i p)):=by
 have:=Vn (la.set i a) (ws.set i p) i bC af;rw[dE,dE,dZ,dZ,if_pos rfl,if_pos rfl,if_pos aA,if_pos hi,dY,dY] at this;have e1:(la.set i a).eraseIdx i=la.eraseIdx i:=dT;have e2:(ws.set i p).eraseIdx i=ws.eraseIdx i:=dT;rw[e1,e2] at this;exact this.symm
theorem Ut (a:AV) (da:List AV) (p:Int × (Str × Int)) (ps:List (Int × (Str × Int))):Qc (a::da) (p::ps)=⟨a,0,[.str (wd p.2.1),.int .i64 p.2.2],true⟩::Qc da ps:=rfl
theorem Us:∀ (da:List AV) (ps:List (Int × (Str × Int))) (i:Nat),da.length=ps.length→i<ps.length→(Qc da ps).Perm (⟨da.getD i .bot,0,[.str (wd (ps.getD i default).2.1),.int .i64 (ps.getD i default).2.2],true⟩::Qc (da.eraseIdx i) (ps.eraseIdx i)):=by
 intro da
 induction da with
 | nil=>intro ps i hl hi; simp at hl; omega
 | cons a da ih=>
  intro ps i hl hi
  cases ps with
  | nil=>simp at hi
  | cons p ps=>
   cases i with
   | zero=>exact fI _
   | succ i=>
    have:=ih ps i aj af;rw[Ut,dC,dC,dB,dB,Ut];exact(List.Perm.cons _ this).trans (List.Perm.swap _ _ _)
theorem Rt {κ ν:Type} [DecidableEq κ]:∀ (ks:List κ) (vs:List ν) (k : κ),ks.length=vs.length→Oo (ks.zip vs) k=if k∈ks then vs[OW ks k]? else none:=by
 intro ks
 induction ks with
 | nil=>intro vs k _; simp[Oo]
 | cons a ks ih=>
  intro vs k hl
  cases vs with
  | nil=>simp at hl
  | cons v vs=>
   simp only[List.zip_cons_cons,Oo,OW];by_cases h:k=a;rw[if_pos h,if_pos h,if_pos (by simp[h])];rfl;rw[if_neg h,if_neg h,ih vs k aj];by_cases hm:k∈ks;rw[if_pos hm,if_pos (by simp[hm])];rfl;rw[if_neg hm,if_neg (by simp[h,hm])]
theorem VQ {κ ν:Type} [DecidableEq κ]:∀ (l:List (κ × ν)) (k : κ),Oo l k=if k∈l.map (·.1) then (l[OW (l.map (·.1)) k]?).map (·.2) else none:=by
 intro l
 induction l with
 | nil=>intro k; rfl
 | cons a l ih=>
  intro k;simp only[dL,Oo,OW];by_cases h:k=a.1;rw[if_pos h,if_pos h,if_pos (by simp[h])];rfl;rw[if_neg h,if_neg h,ih k];by_cases hm:k∈l.map (·.1);rw[if_pos hm,if_pos (List.mem_cons_of_mem _ hm)];rfl;rw[if_neg hm,if_neg (fun hc=>(List.mem_cons.1 hc).elim h hm)]
theorem X4 {κ ν:Type} [DecidableEq κ] {l:List (κ × ν)} {k : κ} {v : ν} (h:Oo l k=some v):∃ i,i<l.length∧l[i]? = some (k,v)∧i=OW (l.map (·.1)) k:=by
 rw[VQ] at h;split at h;rename_i hm;have hlt:OW (l.map (·.1)) k<l.length:=by have:=X2 hm; rwa [dR] at this
 have hg:=YQ hm;rw[dM,dA hlt,fA,Option.some.injEq] at hg;rw[dA hlt,fA,Option.some.injEq] at h;exact⟨_,hlt,by rw[dA hlt]; exact congrArg some (Prod.ext hg h),rfl⟩;cases h
theorem Ua {κ ν:Type} [DecidableEq κ] {l:List (κ × ν)} {k : κ} (h:Oo l k=none):k ∉ l.map (·.1):=by
 intro hm;have hlt:OW (l.map (·.1)) k<l.length:=by have:=X2 hm; rwa [dR] at this
 rw[VQ,if_pos hm,dA hlt] at h;cases h
theorem RG {la:List LA} {ws:List (Str × Lane)} (hl:la.length=ws.length) {w:Str}:(Oo ws w=none→Oo (QY la ws) w=none)∧∀ i l,i=OW (ws.map (·.1)) w→ws[i]? = some (w,l)→Oo (QY la ws) w=some (la.getD i default).p:=by
 have hz:=Rt (ws.map (·.1)) (la.map (·.p)) w bC;refine⟨fun h=>?_,fun i l hi h=>?_⟩;rw[QY,hz,if_neg (Ua h)];have hlt:=(dN.1 h).1;have hm:w∈ws.map (·.1):=dJ.2 ⟨_,dK h,rfl⟩;rw[QY,hz,if_pos hm,←hi,dM,dE,dA (show i<la.length by omega)];rfl
theorem packE_get {da:List AV} {ps:List (Int × (Str × Int))} (hl:da.length=ps.length) {p:Int}:(Oo ps p=none→Oo (Qa da ps) p=none)∧∀ i d,i=OW (ps.map (·.1)) p→ps[i]? = some (p,d)→Oo (Qa da ps) p=some (da.getD i .bot):=by
 have hz:=Rt (ps.map (·.1)) da p bC;refine⟨fun h=>?_,fun i l hi h=>?_⟩;rw[Qa,hz,if_neg (Ua h)];have hlt:=(dN.1 h).1;have hm:p∈ps.map (·.1):=dJ.2 ⟨_,dK h,rfl⟩;rw[Qa,hz,if_pos hm,←hi,dE,dA (show i<da.length by omega)];rfl
theorem X5:∀ {ws:List (Str × Lane)} {i:Nat} {w:Str} {l:Lane} (f:Lane→Lane),(ws.map (·.1)).Nodup→ws[i]? = some (w,l)→K4 ws w f=ws.set i (w,f l):=by
 intro ws
 induction ws with
 | nil=>intro i w l f _ h; simp at h
 | cons p ws ih=>
  intro i w l f hn h;rw[dL,List.nodup_cons] at hn;have key:p.1 ∉ ws.map (·.1)→K4 ws p.1 f=ws:=by
   intro hp;unfold K4;refine(dW fun q hq=>?_).trans (List.map_id ws);rw[if_neg (fun e=>hp (dJ.2 ⟨q,hq,e⟩))];rfl
  cases i with
  | zero=>
   cases h;simp only[K4,dL,if_true,dD];exact congrArg _ (key hn.1)
  | succ i=>
   have h':ws[i]? = some (w,l):=h;have hne:p.1≠w:=fun e=>hn.1 (dJ.2 ⟨_,dK h',e.symm⟩)
   simp only[K4,dL,if_neg hne,dF];exact congrArg _ (ih f hn.2 h')
theorem Qk (ws:List (Str × Lane)) (w:Str) (f:Lane→Lane):(K4 ws w f).map (·.1)=ws.map (·.1):=by
 rw[K4,List.map_map];refine dW fun q _=>?_
 simp only[Function.comp_apply];split <;> rfl
theorem YR (ws:List (Str × Lane)) (w:Str) (f:Lane→Lane):(K4 ws w f).length=ws.length:=dR _
structure ROff (h:AHeap) (A:OA) (O:Off):Prop where
  ok:AOk A O
  off:Rd h A.po 0 [A.vr,A.vn,A.vw,A.vp,A.ve,A.vc]
  rooms:WRow h A.vr O.rooms
  names:WRow h A.vn (O.ways.map (·.1))
  ways:RdD h A.vw (entL kstr idV (QY A.la O.ways))
  packs:RdD h A.vp (entL kint idV (Qa A.da O.packs))
  ever:RdD h A.ve (entL kint AV.bool (O.ever.map fun x=>(x,true)))
  claims:WRow h A.vc O.claims
  lane:∀ i,i<O.ways.length→RLane h (A.la.getD i default) (O.ways.getD i default).2
  deck:∀ i,i<O.packs.length→Rd h (A.da.getD i .bot) 0 [.str (wd (O.packs.getD i default).2.1),.int .i64 (O.packs.getD i default).2.2]
theorem ROff.ext {h h':AHeap} {A:OA} {O:Off} (r:ROff h A O) (k:Keeps h h'):ROff h' A O:=
  ⟨r.ok,r.off.ext k,r.rooms.ext k,r.names.ext k,r.ways.ext k,r.packs.ext k,r.ever.ext k,r.claims.ext k,fun i hi=>(r.lane i hi).ext k,fun i hi=>(r.deck i hi).ext k⟩
theorem St.roff {h0 h:AHeap} {A:OA} {O:Off} {G:List Obj} (st:St h0 h (Ke A O ++ G)) (ok:AOk A O):ROff h A O:=by
 refine⟨ok,st.rd 0 rfl,st.rd 1 rfl,st.rd 2 rfl,st.rdD 3 rfl ok.vw,st.rdD 4 rfl ok.vp,st.rdD 5 rfl ok.ve,st.rd 6 rfl,?_,?_⟩;intro i hi;have hp:(Ke A O ++ G).Perm (KR (A.la.getD i default) (O.ways.getD i default).2 ++ (ZX A O ++ (KK (A.la.eraseIdx i) (O.ways.eraseIdx i) ++ Qc A.da O.packs) ++ G)):=by
  unfold Ke;have h1:=Vn A.la O.ways i ok.ll hi;have h2:(ZX A O ++ (KK A.la O.ways ++ Qc A.da O.packs)).Perm (KR (A.la.getD i default) (O.ways.getD i default).2 ++ (ZX A O ++ (KK (A.la.eraseIdx i) (O.ways.eraseIdx i) ++ Qc A.da O.packs))):=by
   refine(dS _ (dU _ h1)).trans ?_;rw[dO,←dO,←dO (KR _ _)];exact dU _ dH
  rw[←dO];exact dU _ h2
 exact(St.perm hp st).rlane (ok.lok i hi);intro i hi;have h1:=Us A.da O.packs i ok.dl hi;have hp:(Ke A O ++ G).Perm ((⟨A.da.getD i .bot,0,[.str (wd (O.packs.getD i default).2.1),.int .i64 (O.packs.getD i default).2.2],true⟩::Qc (A.da.eraseIdx i) (O.packs.eraseIdx i)) ++ (ZX A O ++ KK A.la O.ways ++ G)):=by
  unfold Ke;have h2:(ZX A O ++ (KK A.la O.ways ++ Qc A.da O.packs)).Perm (Qc A.da O.packs ++ (ZX A O ++ KK A.la O.ways)):=by
   rw[←dO];exact dH
  refine(dU G h2).trans ?_;rw[dO];exact dU _ h1
 exact(St.perm hp st).rd 0 rfl
structure WF (O:Off):Prop where
  nd:(O.ways.map (·.1)).Nodup
  paid:∀ p∈O.ways,p.2.paid=true→p.2.told.isSome=true
  pl:∀ i,i<O.ways.length→(O.ways.getD i default).2.pl=i
  rooms:O.rooms.length≤6
  ways:O.ways.length≤12
  packs:O.packs.length≤20
  lp:∀ p∈O.ways,p.2.packs.length≤99
  ever:O.ever.length≤100
  claims:O.claims.length≤100
  home:∀ p∈O.packs,p.2.1∈O.ways.map (·.1)
  pnd:(O.packs.map (·.1)).Nodup
  rk:∀ p∈O.ways,p.2.fr<O.rooms.length∧p.2.to<O.rooms.length∧p.2.fr≠p.2.to
  rg:∀ p∈O.ways,0≤p.2.lo∧p.2.lo≤p.2.hi∧p.2.hi≤99
  pev:∀ p∈O.packs,p.1∈O.ever
theorem getD_mem {α:Type} {l:List α} {i:Nat} {d : α} (h:i<l.length):l.getD i d∈l:=by
 rw[dE,dA h]; exact dP h
theorem way_at {A:OA} {O:Off} (ok:AOk A O) (nd:(O.ways.map (·.1)).Nodup) {i:Nat} (hi:i<O.ways.length):Oo (QY A.la O.ways) (O.ways.getD i default).1=some (A.la.getD i default).p:=by
 have h1:O.ways[i]? = some ((O.ways.getD i default).1,(O.ways.getD i default).2):=by rw[dE,dA hi]; rfl
 refine(RG ok.ll).2 i (O.ways.getD i default).2 ?_ h1;have hm:(O.ways.getD i default).1∈O.ways.map (·.1):=dJ.2 ⟨_,getD_mem hi,rfl⟩;have h2:=YQ hm;exact Jl nd (by rw[dM,h1]; rfl) h2
end Go.Am
namespace Go.Am
theorem dec_lo {s:ByteArray} {p:Nat} (h:(s.get! p).toNat<128):dG s p=((s.get! p).toNat,1):=by
 unfold dG;simp only[Nat.add_zero];rw[if_pos h]
theorem dec_hi {s:ByteArray} {p:Nat} (h : 128≤(s.get! p).toNat) : 128≤(dG s p).1:=by
 unfold dG;simp only[Nat.add_zero];rw[if_neg aA];have h9:(128:Nat)≤Utf8.runeError:=by decide
 split;split;rename_i h; exact h;exact h9;split;split;rename_i h; simp at h; omega;exact h9;split;split;rename_i h; simp at h; omega;exact h9;exact h9
theorem Yt {l:Str} {p:Nat} (hp:p<l.length) (h:(l.getD p 0).toNat<128):dG (wd l) p=((l.getD p 0).toNat,1):=by
 have:=dec_lo (s:=wd l) (p:=p) (by rw[JN hp]; exact h);rw[JN hp] at this;exact this
theorem J5 {l:Str} {p:Nat} (hp:p<l.length) (h : 128≤(l.getD p 0).toNat) : 128≤(dG (wd l) p).1:=dec_hi (by rw[JN hp]; exact h)
theorem wrap32 {a:Int} (h1 : -2147483648≤a) (h2:a≤2147483647):IntKind.i32.wrap a=a:=by
 unfold IntKind.wrap;simp[IntKind.bits,IntKind.signed];omega
section
variable {P:Program} {n:Nat} {ops:Array Oper} {ex:List Nat} {Q:KF→AHeap→Prop} {k:Nat} {os:List Oper} {K:KF} {h:AHeap} {d:Nat} {ty:TypeId} {pos:String} {after:Array Edge}
theorem KOps.subK {t t' : TypeId} {x y : Operand} {kd : IntKind} {a b : Int} [hx : EvK h.globs n K x (.int kd a)] [hy : EvK h.globs n K y (.int kd b)] (hw : kd.wrap (a - b) = a - b)
    (hk:KOps P n ops ex Q (k+1) os ((d,.int kd (a - b))::K) h):KOps P n ops ex Q k (⟨some d,.binOp .sub t x y t',ty,pos,after,none⟩::os) K h:=
  QB (.inr (.inr rfl)) (by simp only[YG,hw]) hk
theorem isSlc {v:AV} {z:Nat} {xs:List AV} (hr:Rd h v z xs) (hz : 0<z) (hne:xs≠[]):∃ b o m full,v = .slc b o m z full:=by
 rcases hr with ⟨_,h2⟩|⟨b,o,F,p,cs,h1,_⟩|⟨_,_,_,_,h0,_⟩
 exact absurd h2 hne;rcases h1 with ⟨m,full,h1,_⟩|⟨h0,_⟩
 exact⟨b,o,m,full,h1⟩;omega;omega
theorem KOps.nilEqY {t t' e:TypeId} {s:Nat} {zs:List AV} {x y:Operand} {v:AV} [hx:EvK h.globs n K x v] [hy:EvK h.globs n K y .nils] [ht:SlT P t e s zs] (hv:v = .nils) (hk:KOps P n ops ex Q (k+1) os ((d,.bool true)::K) h):KOps P n ops ex Q k (⟨some d,.binOp .eql t x y t',ty,pos,after,none⟩::os) K h:=
  Ki rfl (by simp only[KX,hx.eq,hy.eq,hv,ZF]; rw[if_pos ht.sl]) hk
theorem KOps.nilNeY {t t' e:TypeId} {s:Nat} {zs:List AV} {x y:Operand} {v:AV} [hx:EvK h.globs n K x v] [hy:EvK h.globs n K y .nils] [ht:SlT P t e s zs] (hv:v = .nils) (hk:KOps P n ops ex Q (k+1) os ((d,.bool false)::K) h):KOps P n ops ex Q k (⟨some d,.binOp .neq t x y t',ty,pos,after,none⟩::os) K h:=
  Ki rfl (by simp only[KX,hx.eq,hy.eq,hv,ZF]; rw[if_pos ht.sl]) hk
def Vi (v:AV):Prop:=∃ b o m z full,v = .slc b o m z full
theorem Rd.nilOr {v:AV} {xs:List AV} {z:Nat} (hr:Rd h v z xs) (hz : 0<z):(v = .nils∧xs = [])∨Vi v:=by
 rcases hr with h2|⟨b,o,F,p,cs,h1,_⟩|⟨_,_,_,_,h0,_⟩
 exact .inl h2;rcases h1 with ⟨m,full,h1,_⟩|⟨h0,_⟩
 exact .inr ⟨b,o,m,_,full,h1⟩;omega;omega
theorem KOps.nilEqS {t t' e:TypeId} {s:Nat} {zs:List AV} {x y:Operand} {v:AV} [hx:EvK h.globs n K x v] [hy:EvK h.globs n K y .nils] [ht:SlT P t e s zs] (hv:Vi v) (hk:KOps P n ops ex Q (k+1) os ((d,.bool false)::K) h):KOps P n ops ex Q k (⟨some d,.binOp .eql t x y t',ty,pos,after,none⟩::os) K h:=by
 obtain⟨b,o,m,z,full,rfl⟩:=hv;exact Ki rfl (by simp only[KX,hx.eq,hy.eq,ZF]; rw[if_pos ht.sl]) hk
theorem KOps.nilNeS {t t' e:TypeId} {s:Nat} {zs:List AV} {x y:Operand} {v:AV} [hx:EvK h.globs n K x v] [hy:EvK h.globs n K y .nils] [ht:SlT P t e s zs] (hv:Vi v) (hk:KOps P n ops ex Q (k+1) os ((d,.bool true)::K) h):KOps P n ops ex Q k (⟨some d,.binOp .neq t x y t',ty,pos,after,none⟩::os) K h:=by
 obtain⟨b,o,m,z,full,rfl⟩:=hv;exact Ki rfl (by simp only[KX,hx.eq,hy.eq,ZF]; rw[if_pos ht.sl]) hk
theorem KOps.ptrEqY {t t':TypeId} {x y:Operand} {v:AV} [hx:EvK h.globs n K x v] [hy:EvK h.globs n K y .nilp] (ht:Xu P t=true) (hv:v = .nilp) (hk:KOps P n ops ex Q (k+1) os ((d,.bool true)::K) h):KOps P n ops ex Q k (⟨some d,.binOp .eql t x y t',ty,pos,after,none⟩::os) K h:=
  Ki rfl (by simp only[KX,hx.eq,hy.eq,hv,ZF]; rw[if_pos ht]) hk
theorem KOps.ptrNeY {t t':TypeId} {x y:Operand} {v:AV} [hx:EvK h.globs n K x v] [hy:EvK h.globs n K y .nilp] (ht:Xu P t=true) (hv:v = .nilp) (hk:KOps P n ops ex Q (k+1) os ((d,.bool false)::K) h):KOps P n ops ex Q k (⟨some d,.binOp .neq t x y t',ty,pos,after,none⟩::os) K h:=
  Ki rfl (by simp only[KX,hx.eq,hy.eq,hv,ZF]; rw[if_pos ht]) hk
theorem JE {v:AV} (ha:AddrOf v v 0 0):∃ b o,v = .ptr b o:=by
 obtain⟨b,o,h,_⟩:=ha;rcases h with ⟨h0,_⟩|⟨_,h1⟩
 omega;exact⟨b,o,h1⟩
theorem KOps.ptrEqN {t t':TypeId} {x y:Operand} {v:AV} [hx:EvK h.globs n K x v] [hy:EvK h.globs n K y .nilp] (ht:Xu P t=true) (ha:AddrOf v v 0 0) (hk:KOps P n ops ex Q (k+1) os ((d,.bool false)::K) h):KOps P n ops ex Q k (⟨some d,.binOp .eql t x y t',ty,pos,after,none⟩::os) K h:=by
 obtain⟨b,o,rfl⟩:=JE ha;exact Ki rfl ax hk
theorem KOps.ptrNeN {t t':TypeId} {x y:Operand} {v:AV} [hx:EvK h.globs n K x v] [hy:EvK h.globs n K y .nilp] (ht:Xu P t=true) (ha:AddrOf v v 0 0) (hk:KOps P n ops ex Q (k+1) os ((d,.bool true)::K) h):KOps P n ops ex Q k (⟨some d,.binOp .neq t x y t',ty,pos,after,none⟩::os) K h:=by
 obtain⟨b,o,rfl⟩:=JE ha;exact Ki rfl ax hk
theorem KOps.nilNeB (b:Bool) {t t' e:TypeId} {s:Nat} {zs:List AV} {x y:Operand} {v:AV} [hx:EvK h.globs n K x v] [hy:EvK h.globs n K y .nils] [ht:SlT P t e s zs] (h0:b=false→v = .nils) (h1:b=true→Vi v) (hk:KOps P n ops ex Q (k+1) os ((d,.bool b)::K) h):KOps P n ops ex Q k (⟨some d,.binOp .neq t x y t',ty,pos,after,none⟩::os) K h:=by
 cases b;exact KOps.nilNeY (h0 rfl) hk;exact KOps.nilNeS (h1 rfl) hk
theorem KOps.ptrNeB (b:Bool) {t t':TypeId} {x y:Operand} {v:AV} [hx:EvK h.globs n K x v] [hy:EvK h.globs n K y .nilp] (ht:Xu P t=true) (h0:b=false→v = .nilp) (h1:b=true→AddrOf v v 0 0) (hk:KOps P n ops ex Q (k+1) os ((d,.bool b)::K) h):KOps P n ops ex Q k (⟨some d,.binOp .neq t x y t',ty,pos,after,none⟩::os) K h:=by
 cases b;exact KOps.ptrNeY ht (h0 rfl) hk;exact KOps.ptrNeN ht (h1 rfl) hk
theorem KOps.ptrEqB (b:Bool) {t t':TypeId} {x y:Operand} {v:AV} [hx:EvK h.globs n K x v] [hy:EvK h.globs n K y .nilp] (ht:Xu P t=true) (h0:b=true→v = .nilp) (h1:b=false→AddrOf v v 0 0) (hk:KOps P n ops ex Q (k+1) os ((d,.bool b)::K) h):KOps P n ops ex Q k (⟨some d,.binOp .eql t x y t',ty,pos,after,none⟩::os) K h:=by
 cases b;exact KOps.ptrEqN ht (h1 rfl) hk;exact KOps.ptrEqY ht (h0 rfl) hk
end
end Go.Am
namespace Go.Am
def ixE (l:List Str) (x:Str):Int:=if x∈l then (OW l x:Int) else -1
theorem ixOf_no {κ:Type} [DecidableEq κ] {l:List κ} {x : κ} {i:Nat} (hi:i<l.length) (hx:x=l[i]) (hno:∀ j (hj:j<i),x≠l[j]'aA):OW l x=i:=by
 induction l generalizing i with
 | nil=>simp at hi
 | cons a l ih=>
  simp only[OW]
  cases i with
  | zero=>rw[if_pos am]
  | succ i=>
   have h0:=hno 0 aA;rw[if_neg (by simpa using h0),ih (i:=i) af am (fun j hj=>by simpa using hno (j+1) aA)]
theorem J6 {h:AHeap} {v:AV} {l:List Str} {x:Str} (hv:WRow h v l) (hl:l.length≤1000000):ACalls Go.Proofs.Tryz.prog 60 [v,.str (wd x)] h (fun q h'=>q = .int .i64 (ixE l x)∧h=h'):=by
 refine OL 19 [.tmp 4] Go.Proofs.Tryz.func60 rfl aD rfl rfl (dI rfl) ?_;show KA _ 19 _ _ [(0,v),(1,.str (wd x))] _;refine bo ?_;refine O1 hv ?_;refine Oa [0,1,7,8] ?_;refine Oz ?_;refine Kd (X:=Nat) (fun i=>[(0,v),(1,.str (wd x)),(7,.int .i64 (l.length:Int)),(8,.int .i64 (i:Int))]) (fun i h'=>i≤l.length∧(∀ j,j<i→x≠l.getD j [])∧h=h') (fun i=>l.length - i) 0 ⟨Nat.zero_le _,fun j hj=>absurd hj (fE _),rfl⟩ ?_;rintro i h2 ⟨hi,hno,rfl⟩;refine cI ?_;refine Om ?_ ?_
 ·intro c9;refine OB [0,1,7,8] ?_;refine bh ?_;refine Oa [0,1,5,7,8] ?_;refine Oc ?_;refine Ow hv (j:=i) rfl aC ?_;intro p14 hp14;refine OY hp14 hv aC ?_;refine Oa [0,1,5,7,8,16] ?_;refine Om ?_ ?_;intro c16;refine bW ?_;have hil:i<l.length:=by omega
  rw[dE,dA hil,dY] at c16;have hio:=ixOf_no hil c16 (fun j hj=>by
   have:=hno j hj;rw[dE,dA (show j<l.length by omega),dY] at this;exact this)
  exact⟨by rw[ixE,if_pos (c16 ▸ dP hil),hio],rfl⟩;intro c16;refine bz ?_;refine Oq [0,1,7,8] ?_;refine bU ?_;exact lpN (i+1) ⟨by omega,fun j hj=>by
   rcases dQ.1 hj with q|rfl
   exact hno j q;exact c16,rfl⟩ aA
 intro c9;refine bv ?_;have hie:i=l.length:=by omega
 refine⟨?_,rfl⟩;rw[ixE,if_neg];intro hm;obtain⟨j,hj,he⟩:=dV.1 hm;refine hno j aA ?_;rw[dE,dA hj,dY,he]
theorem X8 {h:AHeap} {v:AV} {l:List Str} {x:Str} (hv:WRow h v l) (hl:l.length≤1000000):ACalls Go.Proofs.Tryz.prog 52 [v,.str (wd x)] h (fun q h'=>q = .bool (decide (x∈l))∧h=h'):=by
 refine OL 9 [.tmp 4] Go.Proofs.Tryz.func52 rfl aD rfl rfl (dI rfl) ?_;show KA _ 9 _ _ [(0,v),(1,.str (wd x))] _;refine bo ?_;refine Oi rfl (J6 hv aA) ?_;rintro _ _ ⟨rfl,rfl⟩;refine bW ?_;refine cY ?_;unfold ixE;by_cases hm:x∈l;rw[if_pos hm,decide_eq_true hm,decide_eq_true aA];rw[if_neg hm,decide_eq_false hm,decide_eq_false aA]
theorem cloneS_nil {h:AHeap}:ACalls Go.Proofs.Tryz.prog 66 [.nils] h (fun q h'=>q = .nils∧h=h'):=by
 refine OL 8 [.tmp 2] Go.Proofs.Tryz.func66 rfl aD rfl rfl (dI rfl) ?_;show KA _ 8 _ _ [(0,.nils)] _;refine cm ?_;refine KOps.nilEqY rfl ?_;refine Ot [0,4] ?_;refine KN ?_;refine bT ?_;exact⟨rfl,rfl⟩
theorem cloneS_slc {h:AHeap} {v:AV} {l:List Str} (hv:WRow h v l) (hs:Vi v) (hl:l.length≤1000000):ACalls Go.Proofs.Tryz.prog 66 [v] h (fun q h'=>St h h' [⟨q,1,wcs l,true⟩]):=by
 refine OL 8 [.tmp 2] Go.Proofs.Tryz.func66 rfl aD rfl rfl (dI rfl) ?_;have hS:=St.refl h;show KA _ 8 _ _ [(0,v)] _;refine cm ?_;refine KOps.nilEqS hs ?_;refine Ot [0,4] ?_;refine ON ?_;refine OB [0] ?_;refine Ox ?_;refine bd ?_;intro v5 h' hS;refine Oh ?_;refine KOps.append hS (fun _=>rfl) (i:=0) rfl (a:=0) rfl (Rd.ext hS.keeps hv) (b:=l.length) aV (by simp[AV.one]) aA ?_;intro v7 h' hS;simp only[dD,dF,dX] at hS;refine bT ?_;exact hS
theorem J4 {h:AHeap} {v:AV} {l:List Str} (hv:WRow h v l) (hl:l.length≤1000000):ACalls Go.Proofs.Tryz.prog 66 [v] h (fun q h'=>St h h' [⟨q,1,wcs l,true⟩]):=by
 rcases Rd.nilOr hv aD with ⟨h1,h2⟩|h1
 subst h1;have e:l = []:=by simpa using h2
 subst e;refine cloneS_nil.mono ?_;rintro q h' ⟨rfl,rfl⟩;exact(St.refl h).nil 1;exact cloneS_slc hv h1 hl
theorem cloneI_nil {h:AHeap}:ACalls Go.Proofs.Tryz.prog 89 [.nils] h (fun q h'=>q = .nils∧h=h'):=by
 refine OL 8 [.tmp 2] Go.Proofs.Tryz.func89 rfl aD rfl rfl (dI rfl) ?_;show KA _ 8 _ _ [(0,.nils)] _;refine cm ?_;refine KOps.nilEqY rfl ?_;refine Ot [0,4] ?_;refine KN ?_;refine bT ?_;exact⟨rfl,rfl⟩
theorem cloneI_slc {h:AHeap} {v:AV} {l:List Int} (hv:Row h v l) (hs:Vi v) (hl:l.length≤1000000):ACalls Go.Proofs.Tryz.prog 89 [v] h (fun q h'=>St h h' [⟨q,1,ints l,true⟩]):=by
 refine OL 8 [.tmp 2] Go.Proofs.Tryz.func89 rfl aD rfl rfl (dI rfl) ?_;have hS:=St.refl h;show KA _ 8 _ _ [(0,v)] _;refine cm ?_;refine KOps.nilEqS hs ?_;refine Ot [0,4] ?_;refine ON ?_;refine OB [0] ?_;refine Ox ?_;refine bd ?_;intro v5 h' hS;refine Oh ?_;refine KOps.append hS (fun _=>rfl) (i:=0) rfl (a:=0) rfl (Rd.ext hS.keeps hv) (b:=l.length) aV (by simp[AV.one]) aA ?_;intro v7 h' hS;simp only[dD,dF,dX] at hS;refine bT ?_;exact hS
theorem J3 {h:AHeap} {v:AV} {l:List Int} (hv:Row h v l) (hl:l.length≤1000000):ACalls Go.Proofs.Tryz.prog 89 [v] h (fun q h'=>St h h' [⟨q,1,ints l,true⟩]):=by
 rcases Rd.nilOr hv aD with ⟨h1,h2⟩|h1
 subst h1;have e:l = []:=by simpa using h2
 subst e;refine cloneI_nil.mono ?_;rintro q h' ⟨rfl,rfl⟩;exact(St.refl h).nil 1;exact cloneI_slc hv h1 hl
end Go.Am
namespace Go.Am
def Vk (c:UInt8):Bool:=decide (c.toNat<32∨126<c.toNat)
theorem any_at {p:UInt8→Bool} {l:Str} {i:Nat} (hi:i<l.length) (h:p (l.getD i 0)=true):l.any p=true:=by
 rw[List.any_eq_true];rw[dE,dA hi,dY] at h;exact⟨_,dP hi,h⟩
theorem any_no {p:UInt8→Bool} {l:Str} (h:∀ i,i<l.length→p (l.getD i 0)=false):l.any p=false:=by
 rw[List.any_eq_false];intro x hx;obtain⟨i,hi,rfl⟩:=dV.1 hx;have:=h i hi;rw[dE,dA hi,dY] at this;simp[this]
theorem badR_c {h:AHeap} {r:Nat}:ACalls Go.Proofs.Tryz.prog 106 [.int .i32 (r:Int)] h (fun q h'=>q = .bool (decide (r<32∨126<r))∧h=h'):=by
 refine OL 9 [.tmp 2] Go.Proofs.Tryz.func106 rfl aD rfl rfl (dI rfl) ?_;show KA _ 9 _ _ [(0,.int .i32 (r:Int))] _;refine cm ?_;refine OC (dj:=5) rfl rfl false true rfl ?_ ?_;intro g5;have g5:=of_decide_eq_false g5;refine bT ?_;refine cY ?_;rw[Bool.eq_iff_iff,decide_eq_true_iff];simp;omega;intro g5;have g5:=of_decide_eq_true g5;refine bT ?_;refine cY ?_;rw[Bool.eq_iff_iff,decide_eq_true_iff];simp;omega
theorem indexBad_c {h:AHeap} {l:Str} (hl:l.length≤1000000):ACalls Go.Proofs.Tryz.prog 177 [.str (wd l),.fn 106 [],.bool true] h (fun q h'=>(∃ c:Int,q = .int .i64 c∧(0≤c↔l.any Vk=true))∧Keeps h h'):=by
 refine OL 21 [.tmp 6] Go.Proofs.Tryz.func177 rfl aD rfl rfl (dI rfl) ?_;have hS:=St.refl h;show KA _ 21 _ _ [(0,.str (wd l)),(1,.fn 106 []),(2,.bool true)] _;refine OK [0,1,2] ?_;refine Ou ?_;refine KOps.range hS rfl ?_;intro v10 h' hv10 hS;refine Ot [1,2,10] ?_;refine Oz ?_;refine Kd (X:=Nat) (fun p=>[(1,.fn 106 []),(2,.bool true),(10,v10)]) (fun p h'=>p≤l.length∧(∀ q,q<p→Vk (l.getD q 0)=false)∧St h h' [walkO v10 (wd l) p]) (fun p=>l.length - p) 0 ?_ ?_;exact⟨Nat.zero_le _,fun q hq=>absurd hq (fE _),hS⟩;rintro p h2 ⟨hp,hb,hS⟩;refine Ox ?_;refine KOps.next hS hv10 (i:=0) rfl rfl ?_ ?_;intro np h' hS;simp only[dD,dF,dX] at hS;have hlt:p<l.length:=by rw[wd_size] at np; exact np
 refine K5 ?_;refine bl ?_;refine KN ?_;refine OB [1,2,10,11] ?_;refine Oz ?_;refine OK [1,2,7,8,10] ?_;refine Ou ?_;refine Oi rfl (badR_c) ?_;rintro _ _ ⟨rfl,rfl⟩;refine Oh ?_;refine KOps.eqlB aE ?_;refine Ot [1,2,7,10,19] ?_;refine Kl ?_ ?_;intro c19;refine OK [6] ?_;refine Og ?_;refine⟨⟨_,rfl,⟨fun _=>any_at hlt ?_,fun _=>by omega⟩⟩,hS.keeps⟩;unfold Vk;by_cases hd:(l.getD p 0).toNat<128;rw[Yt hlt hd] at c19; simpa using c19;rw[decide_eq_true_iff]; omega;intro c19;refine b5 ?_;have hd:(l.getD p 0).toNat<128:=by
  apply Classical.byContradiction;intro hn;have:=J5 hlt (show 128≤(l.getD p 0).toNat by omega);simp at c19;omega
 rw[Yt hlt hd] at hS c19;exact lpN (p+1) ⟨hlt,fun q hq=>by
  rcases dQ.1 hq with g|rfl
  exact hb q g;unfold Vk; simpa using c19,hS⟩ aA
 intro np;refine K5 ?_;refine bl ?_;refine ON ?_;refine bQ ?_;refine Oq [] ?_;refine Ou ?_;refine Of ?_;refine Od ?_;refine Og ?_;have hpe:p=l.length:=by rw[wd_size] at np; omega
 subst hpe;refine⟨⟨_,rfl,⟨fun h=>absurd h aD,fun h=>?_⟩⟩,hS.keeps⟩;rw[any_no hb] at h;cases h
theorem RU {h:AHeap} {l:Str} (hl:l.length≤1000000):ACalls Go.Proofs.Tryz.prog 139 [.str (wd l),.fn 106 []] h (fun q h'=>(∃ c:Int,q = .int .i64 c∧(0≤c↔l.any Vk=true))∧Keeps h h'):=by
 refine OL 8 [.tmp 4] Go.Proofs.Tryz.func139 rfl aD rfl rfl (dI rfl) ?_;show KA _ 8 _ _ [(0,.str (wd l)),(1,.fn 106 [])] _;refine bo ?_;refine Oi rfl (indexBad_c hl) ?_;rintro _ h2 ⟨⟨c,rfl,hc⟩,hK⟩;refine bW ?_;exact⟨⟨_,rfl,hc⟩,hK⟩
theorem WK {h:AHeap} {l:Str} (hl:l.length≤1000000):ACalls Go.Proofs.Tryz.prog 105 [.str (wd l),.fn 106 []] h (fun q h'=>q = .bool (l.any Vk)∧Keeps h h'):=by
 refine OL 9 [.tmp 4] Go.Proofs.Tryz.func105 rfl aD rfl rfl (dI rfl) ?_;show KA _ 9 _ _ [(0,.str (wd l)),(1,.fn 106 [])] _;refine bo ?_;refine Oi rfl (RU hl) ?_;rintro _ h2 ⟨⟨c,rfl,hc⟩,hK⟩;refine bW ?_;refine⟨congrArg AV.bool ?_,hK⟩;rw[Bool.eq_iff_iff,decide_eq_true_iff];exact hc
end Go.Am
