/-
  Layer 01: one stamp more by a path: the order of the map has no influence.
  Conditions: none.
-/
import Derived.Test.YtdfhmdhjeiipfaaGreatDoorSCk
open List renaming getD_eq_getElem?_getD → dU, getElem?_eq_getElem → dY, set_cons_succ → dM, set_cons_zero → dN, range → dQ, mem_range → dR, length_map → dS, length_cons → dT, length_singleton → dV, mem_of_getElem? → dW, mem_map → dX, append_assoc → dZ, getElem?_map → fA, getElem_mem → fE, take_of_length_le → fO, length_range → fU, length_take → fY, length_set → fB
open Nat renaming le_of_ble_eq_true → dO, zero_add → dP, zero_le → fI
set_option maxRecDepth 99999
set_option maxHeartbeats 4000000
namespace Go.Am
theorem SA {E:List (Int × Bool)} (B:Int):∀ (D:List Nat) (l:List Int),(∀ x∈l,-B≤x∧x≤B)→∀ x∈Qe E l D,-(B+D.length)≤x∧x≤B+D.length:=by
 intro D
 induction D generalizing B with
 | nil=>intro l h x hx; simpa using h x hx
 | cons j D ih=>
  intro l h x hx;have h1:∀ y∈Xd E l j,-(B+1)≤y∧y≤B+1:=by
   intro y hy;unfold Xd at hy;split at hy
   ·rename_i w m _;rcases List.mem_or_eq_of_mem_set hy with hy|rfl
    have:=h y hy; omega
    ·have h2 : -B≤l.getD w.toNat 0∧l.getD w.toNat 0≤B∨l.getD w.toNat 0=0:=by
      rw[dU];by_cases hw:w.toNat<l.length;rw[dY hw]; exact .inl (h _ (fE hw));rw[List.getElem?_eq_none aA]; exact .inr rfl
     by_cases hB : 0≤B;split <;> omega
     ·have:l = []:=by
       cases l with
       | nil=>rfl
       | cons a l=>have:=h a aN; omega
      subst this;simp at hy
   have:=h y hy; omega
  have h2:=ih (B+1) (Xd E l j) h1 x hx;rw[dT];omega
abbrev entB (E:List (Int × Bool)):List (AV × AV):=entL (AV.int .i64) AV.bool E
theorem push_c {h0 h : AHeap} {pf vn vm a0 a1 : AV} {ns : List Int} {E : List (Int × Bool)} {tf tn : Bool} {G : List Obj} (hpf : AddrOf pf pf 0 0) (hvm : Zp vm) (hn0 : ns ≠ []) (hE : ∀ p ∈ E, 0 ≤ p.1 ∧ p.1 < ns.length) (hb : ∀ x ∈ ns, -1000000000 ≤ x ∧ x ≤ 1000000000) (hEl : E.length ≤ 1000000000)
    (hS:St h0 h (⟨pf,0,[a0,a1,vn],tf⟩::⟨vn,1,ints ns,tn⟩::mapO vm (entB E)::G)) :
    ACalls Go.Proofs.Tryz.prog 82 [pf,vm] h (fun _ h'=>St h0 h' (⟨pf,0,[a0,a1,vn],tf⟩::⟨vn,1,ints (Qe E ns (dQ E.length)),tn⟩::mapO vm (entB E)::G)):=by
 obtain⟨bm,Fm,hvm',hgm⟩:=St.rdM hS 2 rfl hvm;have hlen:(entB E).length=E.length:=by simp[entB]
 have hS1:=St.allocT hS (.mwalk bm (entB E).length []);have hgI:(h.allocT (.mwalk bm (entB E).length [])).get h.next=some (.obj h.nfam (.mwalk bm (entB E).length [])):=by rw[AHeap.get_allocT,if_pos rfl]
 have hgM:(h.allocT (.mwalk bm (entB E).length [])).get bm=some (.obj Fm (.map (entB E))):=by
  rw[AHeap.get_allocT,if_neg (by have:=AHeap.get_lt hgm; omega)]; exact hgm
 generalize hh1:h.allocT (.mwalk bm (entB E).length [])=h1 at hS1 hgI hgM;have hrow:∃ bn off full Fn pn cs f,vn = .slc bn off ns.length 1 full∧h1.get bn=some (.cells (some Fn) pn cs)∧h1.fam Fn=some f∧f.sees bn=true∧(cs.drop off).take ns.length=ints ns:=by
  obtain⟨_,fs,e1,e2,_⟩:=id hS1;have hlt : 2<fs.length:=by rw[e1]; simp
  have hmu:=e2 2 _ _ rfl (dY hlt);generalize fs[2]'hlt=F at hmu
  cases F with
  | none=>
   have:=hmu.2;simp only[ints,List.map_eq_nil_iff] at this;exact absurd this hn0
  | some Fn=>
   rcases hmu with ⟨bn,off,pn,cs,f,_,hv,hg,hf,hs,hx,_⟩|⟨_,_,_,_,_,hz,_⟩
   rcases hv with ⟨m,full,hv,hm,_⟩|⟨hz,_⟩
   simp only[ints,dS,Nat.mul_one] at hm hx;subst hm;exact⟨bn,off,full,Fn,pn,cs,f,hv,hg,hf,hs,by simpa [ints] using hx⟩;cases hz;cases hz
 obtain⟨bn,off,full,Fn,pn,cs,f,hvn,hgn,hfn,hsee,hcut⟩:=hrow;have hne:h.next≠bn:=by rintro rfl; rw[hgI] at hgn; cases hgn
 have hneM:bm≠bn:=by rintro rfl; rw[hgM] at hgn; cases hgn
 have hneI:bm≠h.next:=by have:=AHeap.get_lt hgm; omega
 have hIlt:=AHeap.get_lt hgI;have hnlt:=AHeap.get_lt hgn;have hFlt:=AHeap.fam_lt hfn;have hcl:off+ns.length≤cs.length:=by
  have h2:=congrArg List.length hcut;have h3:=List.length_pos_iff.2 hn0;simp only[fY,List.length_drop,ints,dS] at h2;omega
 let HS:List Nat→AHeap:=fun D=>Zn h1 h.next h.nfam bm (entB E).length bn Fn pn cs off f D (ints (Qe E ns D))
 have hbl:∀ D,(Qe E ns D).length=ns.length:=fun D=>bumps_len E D ns
 have hH0:HS []=h1:=hpush_nil hgI hgn hfn (by simpa [Qe] using hcut);have hgetI:∀ D,(HS D).get h.next=some (.obj h.nfam (.mwalk bm (entB E).length D)):=fun D=>by
  show(Zn _ _ _ _ _ _ _ _ _ _ _ _ _).get _=_;rw[JL _ hIlt hnlt,if_neg hne,if_pos rfl]
 have hgetM:∀ D,(HS D).get bm=some (.obj Fm (.map (entB E))):=fun D=>by
  show(Zn _ _ _ _ _ _ _ _ _ _ _ _ _).get _=_;rw[JL _ hIlt hnlt,if_neg hneM,if_neg hneI]; exact hgM
 have hgetN:∀ D,(HS D).get bn=some (.cells (some Fn) pn (putL cs off (ints (Qe E ns D)))):=fun D=>by
  show(Zn _ _ _ _ _ _ _ _ _ _ _ _ _).get _=_;rw[JL _ hIlt hnlt,if_pos rfl]
 have hfamN:∀ D,(HS D).fam Fn=some (if D = [] then f else {f with live:=some [bn]}):=fun D=>hpush_fam hFlt
 have hmove : ∀ (D : List Nat) (j : Nat), St h0 (HS D) (⟨.it h.next, 0, Thing.enc (.mwalk bm (entB E).length D), false⟩ :: ⟨pf, 0, [a0, a1, vn], tf⟩ :: ⟨vn, 1, ints (Qe E ns D), tn⟩ :: mapO vm (entB E) :: G) →
     St h0 ((HS D).set h.next (.obj h.nfam (.mwalk bm (entB E).length (D ++ [j])))) (⟨.it h.next,0,Thing.enc (.mwalk bm (entB E).length (D ++ [j])),false⟩::⟨pf,0,[a0,a1,vn],tf⟩::⟨vn,1,ints (Qe E ns D),tn⟩::mapO vm (entB E)::G):=by
   intro D j hD;refine St.setT (k:=0) hD rfl (x:=.mwalk bm (entB E).length D) (x':=.mwalk bm (entB E).length (D ++ [j])) (fun _=>rfl) rfl (hgetI D) ?_;intro F hmu
   cases F with
   | none=>cases hmu.1
   | some F=>
     rcases hmu with ⟨b,o,p,c,f',_,hv,_⟩|⟨b,x,f',hlo,hv,_,hg,hf,_⟩
     · rcases hv with ⟨_,_,hv,_⟩|⟨_,hv⟩ <;> cases hv
     · have hbb:h.next=b:=by cases x <;> first|exact AV.it.inj hv|cases hv
       subst hbb;rw[hgetI D] at hg;cases hg;exact⟨rfl,hlo,f',hf⟩
 have hput:∀ (xs:List AV) (w:Nat) (x:AV),w<xs.length→off+xs.length≤cs.length→putL (putL cs off xs) (off+w) [x]=putL cs off (xs.set w x):=by
  intro xs w x hw hc;have hl:(putL cs off xs).length=cs.length:=KT _ _ _ hc;have hl2:(putL cs off (xs.set w x)).length=cs.length:=KT _ _ _ (by rw[fB]; exact hc);rw[Jn _ _ _ aA];unfold putL;have e1:(cs.take off).length=off:=by rw[fY]; omega
  rw[dZ,dZ,List.set_append_right _ _ aA,e1,Nat.add_sub_cancel_left,List.set_append_left _ _ hw,fB]
 have hints:∀ (l:List Int) (w:Nat) (c:Int),(ints l).set w (.int .i64 c)=ints (l.set w c):=fun l w c=>by simp[ints,List.map_set]
 have hbump:∀ (D:List Nat) (j:Nat) (w:Int) (m:Bool),E[j]? = some (w,m)→Qe E ns (D ++ [j])=(Qe E ns D).set w.toNat ((Qe E ns D).getD w.toNat 0+if m then 1 else -1):=by
  intro D j w m hj;rw[Wk,Xd,hj]
 have hstore:∀ (D:List Nat) (j:Nat) (w:Int) (m:Bool),E[j]? = some (w,m)→ZZ Go.Proofs.Tryz.prog ((HS D).set h.next (.obj h.nfam (.mwalk bm (entB E).length (D ++ [j])))) 3 (.ptr bn (off+w.toNat)) (.int .i64 ((Qe E ns D).getD w.toNat 0+if m then 1 else -1))=some (.tup [],HS (D ++ [j])):=by
  intro D j w m hj;have hwl:=hE _ (dW hj);dsimp only at hwl;have hg:((HS D).set h.next (.obj h.nfam (.mwalk bm (entB E).length (D ++ [j])))).get bn=some (.cells (some Fn) pn (putL cs off (ints (Qe E ns D)))):=by
   rw[AHeap.get_set,if_neg (by rintro⟨rfl,_⟩; exact hne rfl)]; exact hgetN D
  have hf:((HS D).set h.next (.obj h.nfam (.mwalk bm (entB E).length (D ++ [j])))).fam Fn=some (if D = [] then f else {f with live:=some [bn]}):=hfamN D;have hlp:(putL cs off (ints (Qe E ns D))).length=cs.length:=KT _ _ _ (by simpa [ints,hbl D] using hcl);have hsz:szA Go.Proofs.Tryz.prog 3=some 1:=ScT.sz;have hval:((HS D).set h.next (.obj h.nfam (.mwalk bm (entB E).length (D ++ [j])))).valid bn=true:=by
   unfold AHeap.valid;rw[hg];simp only[hf];by_cases hD:D = [];rw[if_pos hD]; exact hsee;rw[if_neg hD]; simp[Fam.sees]
  simp only[ZZ,hg,hf,hsz,AV.cells?,AV.one,if_true,Option.bind_eq_bind,Option.bind_some];rw[if_pos ⟨hval,rfl,by rw[hlp]; simp only[dV]; omega⟩];refine congrArg (fun q=>some (AV.tup [],q)) ?_;refine hpush_step hne aN ?_ ?_;rw[hput _ _ _ (by simp only[ints,dS,hbl]; omega) (by simpa [ints,hbl D] using hcl),hints,hbump D j w m hj];by_cases hD:D = [];rw[if_pos hD];rw[if_neg hD]
 have hEj:∀ j,j<(entB E).length→∃ w m,E[j]? = some (w,m):=fun j hj=>⟨_,_,dY aA⟩
 have hSt:∀ (k:Nat) (D:List Nat),D.length=k→(∀ j∈D,j<(entB E).length)→St h0 (HS D) (⟨.it h.next,0,Thing.enc (.mwalk bm (entB E).length D),false⟩::⟨pf,0,[a0,a1,vn],tf⟩::⟨vn,1,ints (Qe E ns D),tn⟩::mapO vm (entB E)::G):=by
  intro k
  induction k with
  | zero=>
   intro D hD _;obtain rfl:=List.length_eq_zero_iff.1 hD;rw[hH0];exact hS1
  | succ k ih=>
   intro D hD hin;rcases List.eq_nil_or_concat D with rfl|⟨D',j,rfl⟩
   cases hD;rw[List.concat_eq_append] at hD hin⊢;have hD':=ih D' (by simpa using hD) (fun i hi=>hin i (by simp[hi]));obtain⟨w,m,hj⟩:=hEj j (hin j aN);have hwl:=hE _ (dW hj);dsimp only at hwl;have hm:=hmove D' j hD';obtain⟨h',e1,e2⟩:=St.store (P:=Go.Proofs.Tryz.prog) (t:=3) hm (k:=2) rfl (p:=.ptr bn (off+w.toNat)) (y:=.int .i64 ((Qe E ns D').getD w.toNat 0+if m then 1 else -1)) (j:=w.toNat) (l:=[.int .i64 ((Qe E ns D').getD w.toNat 0+if m then 1 else -1)]) ⟨bn,off,.inl ⟨Nat.one_pos,_,_,hvn⟩,rfl⟩ rfl ScT.sz aN (by simp only[ints,dS,hbl,dV]; omega);rw[hstore D' j w m hj] at e1;simp only[Option.some.injEq,Prod.mk.injEq,true_and] at e1;subst e1;simp only[dM,dN] at e2;rw[Jn _ _ _ (by simp only[ints,dS,hbl]; omega),hints,←hbump D' j w m hj] at e2;exact e2
 have hmap:Z8 Go.Proofs.Tryz.prog 137=some (3,4):=by kernel_rfl
 refine OI 32 [] Go.Proofs.Tryz.func82 rfl aE rfl rfl (dO rfl) ?_;show KA _ 32 _ _ [(0,pf),(1,vm)] _;refine OE ?_;refine Zu (UG rfl hmap (EvK.eq.trans hvm') hgm) ?_;refine b6 ?_;refine Oz ?_;rw[hh1];refine KA.mapLoop (b:=h.next) (F:=h.nfam) (bm:=bm) (Fm:=Fm) (es:=entB E) (id:=0) (fun D=>[(0,pf),(7,.it h.next)]) HS (KE:=[]) (HE:=(HS (dQ (entB E).length)).set h.next (.obj h.nfam .gone)) rfl (fun _ _=>EvK.eq) (fun D _=>hgetI D) (fun D _=>hgetM D) ?_ ?_ (Sub.cons Look.eq (Sub.cons Look.eq (Sub.nil _))) hH0.symm ?_
 ·intro D j k v hD hj hjk;have hjl:=(List.getElem?_eq_some_iff.1 hjk).1;obtain⟨w,m,hw⟩:=hEj j hjl;have hkv:k = .int .i64 w∧v = .bool m:=by
   simp only[entB,entL,fA,hw,Option.map_some,Option.some.injEq,Prod.mk.injEq] at hjk;exact⟨hjk.1.symm,hjk.2.symm⟩
  obtain⟨rfl,rfl⟩:=hkv;have hwl:=hE _ (dW hw);dsimp only at hwl;have hSt':=hmove D j (hSt D.length D rfl hD.2);have hst:=hstore D j w m hw;have hDl:D.length≤1000000000:=by
   have:=Xi (m:=dQ (entB E).length) hD.1 (fun x hx=>dR.2 (hD.2 x hx));rw[fU] at this;omega
  have hbd:=SA (E:=E) 1000000000 D ns hb ((Qe E ns D).getD w.toNat 0) (by
   rw[dU,dY ax];exact fE _)
  have hgI':((HS D).set h.next (.obj h.nfam (.mwalk bm (entB E).length (D ++ [j])))).get h.next=some (.obj h.nfam (.mwalk bm (entB E).length (D ++ [j]))):=by
   rw[AHeap.get_set,if_pos ⟨rfl,AHeap.get_lt (hgetI D)⟩]
  have hgM':((HS D).set h.next (.obj h.nfam (.mwalk bm (entB E).length (D ++ [j])))).get bm=some (.obj Fm (.map (entB E))):=by
   rw[AHeap.get_set,if_neg (by rintro⟨h3,_⟩; exact hneI h3)]; exact hgetM D
  refine OS ?_;refine Og ?_;refine Ot ?_;refine KL ?_;refine OB ?_;refine Od ?_;refine Oz ?_;refine Oq ?_;refine Zu (UD rfl EvK.eq hgI' hgM' hjk) ?_;refine OE ?_;refine b6 ?_;refine OE ?_;refine b6 ?_
  cases m with
  | true=>
   refine KL ?_
   ·skip
    refine OE ?_;refine b9 ?_;intro p16 hp16;refine Oe hp16 (hSt'.rd 1 rfl) rfl ?_;refine Of ?_;refine OD (hSt'.rd 2 rfl) (j:=w.toNat) aA ax ?_;intro q hq;refine Ke hq (hSt'.rd 2 rfl) ax ?_;refine Kt aA aA ?_;refine OD (hSt'.rd 2 rfl) (j:=w.toNat) aA ax ?_;intro q2 hq2;obtain⟨bq,oq,hq3,rfl⟩:=hq2;rcases hq3 with ⟨_,_,_,hq4⟩|⟨hq4,_⟩
    rotate_left
    cases hq4;rw[hvn] at hq4;cases hq4;refine KOps.storeE rfl (h':=HS (D ++ [j])) ?_ ?_;exact hst;refine Og ?_;refine Oj ?_;exact⟨rfl,Sub.cons Look.eq (Sub.cons Look.eq (Sub.nil _)),rfl⟩
  | false=>
   refine OP ?_
   ·skip
    refine OE ?_;refine b9 ?_;intro p25 hp25;refine Oe hp25 (hSt'.rd 1 rfl) rfl ?_;refine Of ?_;refine OD (hSt'.rd 2 rfl) (j:=w.toNat) aA ax ?_;intro q hq;refine Ke hq (hSt'.rd 2 rfl) ax ?_;refine Zx aA aA ?_;refine OD (hSt'.rd 2 rfl) (j:=w.toNat) aA ax ?_;intro q2 hq2;obtain⟨bq,oq,hq3,rfl⟩:=hq2;rcases hq3 with ⟨_,_,_,hq4⟩|⟨hq4,_⟩
    rotate_left
    cases hq4;rw[hvn] at hq4;cases hq4;refine KOps.storeE rfl (h':=HS (D ++ [j])) ?_ ?_;rw[show(Qe E ns D).getD w.toNat 0 - 1=(Qe E ns D).getD w.toNat 0 + -1 from rfl]; exact hst;refine Og ?_;refine Oj ?_;exact⟨rfl,Sub.cons Look.eq (Sub.cons Look.eq (Sub.nil _)),rfl⟩
 intro D hD hf;have hperm:D.Perm (dQ (entB E).length):=(List.perm_ext_iff_of_nodup hD.1 List.nodup_range).2 fun i=>⟨fun hi=>dR.2 (hD.2 i hi),fun hi=>hf i (dR.1 hi)⟩
 refine OS ?_;refine Og ?_;refine Ot ?_;refine OP ?_;refine Ka ?_;refine OV ?_;refine⟨rfl,Sub.nil _,⟨_,hgetI D⟩,?_⟩;show(Zn _ _ _ _ _ _ _ _ _ _ _ D _).set _ _=(Zn _ _ _ _ _ _ _ _ _ _ _ _ _).set _ _;rw[bumps_perm hperm ns];refine hpush_gone hne ⟨fun h3=>?_,fun h3=>?_⟩;subst h3; exact(List.nil_perm.1 hperm);rw[h3] at hperm; exact List.perm_nil.1 hperm
 ·refine O2 ?_;refine KK ?_;have h3:=hSt _ (dQ (entB E).length) (fU) (fun i hi=>dR.1 hi);have h4:St h0 ((HS (dQ (entB E).length)).set h.next (.obj h.nfam .gone)) (⟨.it h.next,0,Thing.enc .gone,false⟩::⟨pf,0,[a0,a1,vn],tf⟩::⟨vn,1,ints (Qe E ns (dQ (entB E).length)),tn⟩::mapO vm (entB E)::G):=by
   refine St.setT (k:=0) h3 rfl (x:=.mwalk bm (entB E).length (dQ (entB E).length)) (x':=.gone) (fun _=>rfl) rfl (hgetI _) ?_;intro F hmu
   cases F with
   | none=>cases hmu.1
   | some F=>
    rcases hmu with ⟨b,o,p,c,f',_,hv,_⟩|⟨b,x,f',hlo,hv,_,hg,hf,_⟩
    rcases hv with ⟨_,_,hv,_⟩|⟨_,hv⟩ <;> cases hv
    have hbb:h.next=b:=by cases x <;> first|exact AV.it.inj hv|cases hv
    subst hbb;rw[hgetI] at hg;cases hg;exact⟨rfl,hlo,f',hf⟩
  rw[←hlen];exact St.tail h4
end Go.Am
namespace Go.Am
section
variable {r:Int} {ws:List W} {n:List Int} {A:Nat→Bool} {u:Int} {M:List (Int × Stp)} {P Q:List Int}
theorem Bfs.step {v x : Int} {i : Nat} {more : Bool} {Qt : List Int} (b : Bfs r ws n A u M P (v :: Qt)) (s : JA ws n A v x i more) (h0 : 0 ≤ x) (h1 : x < r) :
    ∃ Qt',putQ M (v::Qt) x=v::Qt'∧Bfs r ws n A u (putM M x ⟨i,v,more⟩) P (v::Qt')∧(∀ y,y∈P ++ v::Qt→y∈P ++ v::Qt')∧x∈P ++ v::Qt':=by
 unfold putQ putM;by_cases hx:(OG M x).isSome=true;rw[if_pos hx,if_pos hx];exact⟨Qt,rfl,b,fun y hy=>hy,(b.has x).1 hx⟩;rw[if_neg hx,if_neg hx];have hm:x ∉ P ++ v::Qt:=fun h=>hx ((b.has x).2 h)
 refine⟨Qt ++ [x],rfl,?_,?_,?_⟩;exact b.put aN s h0 h1 hm;intro y hy;have:P ++ v::(Qt ++ [x])=(P ++ v::Qt) ++ [x]:=by simp
 rw[this]; exact List.mem_append_left _ hy;simp
theorem Seen.succ {v:Int} {K:List Int} {i:Nat} (h:Seen ws n A v K i) (h1:A i=true→(ws.getD i default).f=v→n.getD i 0<(ws.getD i default).m→(ws.getD i default).t∈K) (h2:A i=true→(ws.getD i default).t=v→(ws.getD i default).l<n.getD i 0→(ws.getD i default).f∈K):Seen ws n A v K (i+1):=by
 intro j hj hA;rcases Nat.lt_succ_iff_lt_or_eq.1 hj with h3|rfl
 exact h j h3 hA;exact⟨h1 hA,h2 hA⟩
end
theorem path_c {h : AHeap} {r : Nat} {u z : Int} {pf vW vn : AV} {ws : List W} {n : List Int} {A : Nat → Bool} {fa : FuncId} {caps : List AV} (hpf : AddrOf pf pf 0 0) (hf : Rd h pf 0 [.int .i64 (r : Int), vW, vn]) (hv : Rd h vW 4 (flr wc ws)) (hn : Row h vn n) (hB : BOk (r : Int) ws) (hl : n.length = ws.length) (hu0 : 0 ≤ u) (hu1 : u < r)
    (hA:∀ (h':AHeap) (k:Nat),Keeps h h'→k<ws.length→ACalls Go.Proofs.Tryz.prog fa ([.int .i64 (k:Int)] ++ caps) h' (fun q h2=>q = .bool (A k)∧h'=h2)):ACalls Go.Proofs.Tryz.prog 81 [pf,.int .i64 u,.int .i64 z,.fn fa caps] h (fun q h'=>∃ b G,q.mapNil=some b∧St h h' G∧(b=true→¬ ∃ vs E,Path ws n A u vs z E)∧(b=false→∃ vs E,Path ws n A u vs z E∧G = [mapO q (entB E)])):=by
 refine OI 115 [.tmp 8] Go.Proofs.Tryz.func81 rfl aE rfl rfl (dO rfl) ?_;have hS:=St.refl h;have hr6:=hB.r6;have hwl:=hB.len;show KA _ 115 _ _ [(0,pf),(1,.int .i64 u),(2,.int .i64 z),(3,.fn fa caps)] _;refine Oa [0,1,2,3] ?_;refine Oq ?_;refine KOps.makeMap hS rfl ?_;intro v17 h' hv17 hS;refine Of ?_;refine KOps.buildS1 (z0:=.int .i64 0) (z1:=.int .i64 0) (z2:=.bool false) aC aH aC aC aG ?_;refine KOps.insertK (kf:=AV.int .i64) (vf:=stA) (l:=[]) (i:=0) (b:=⟨-1,0,false⟩) EvK.eq rfl hS hv17 rfl rfl ?_;intro h' hS;simp only[dN,dM,dP] at hS;refine Of ?_;refine O1 hS ?_;intro p9 h' hp9 hS;refine Kf hS rfl (i:=0) rfl hp9 (by first|rfl|assumption|exact St.one hS (k:=1) rfl) ?_;intro h' hS;refine On [0,1,2,3,9] ?_;refine Oc ?_;refine bo ?_;intro v22 h' hS;refine O1 hS ?_;intro p10 h' hp10 hS;refine Kf hS rfl (i:=0) rfl hp10 (by first|rfl|assumption|exact St.one hS (k:=1) rfl) ?_;intro h' hS;refine On [0,1,2,3,9,10] ?_;refine Oz ?_;refine Kb (X:=List (Int × Stp) × List Int × List Int × AV × Bool × AV) (fun x=>[(0,pf),(1,.int .i64 u),(2,.int .i64 z),(3,.fn fa caps),(9,p9),(10,x.2.2.2.2.2)]) (fun x h'=>Bfs (r:Int) ws n A u x.1 x.2.1 x.2.2.1∧z ∉ x.2.1∧AddrOf x.2.2.2.2.2 x.2.2.2.2.2 0 0∧St h h' [⟨x.2.2.2.2.2,0,[x.2.2.2.1],true⟩,⟨x.2.2.2.1,1,ints x.2.2.1,x.2.2.2.2.1⟩,⟨p9,0,[v17],true⟩,mapO v17 (entS x.1)]) (fun x=>r - x.2.1.length) ([(u,⟨-1,0,false⟩)],[],[u],v22,true,p10) ?_ ?_;exact⟨Bfs.init hu0 hu1 _,by simp,hp10,hS⟩;rintro⟨M,P,Q,vq,tq,pq⟩ h2 ⟨hb,hz,hpq,hS⟩;dsimp only at hb hz hpq hS⊢;refine bu ?_;refine OH hS (i:=0) rfl hpq ?_;refine Kk (hS.rd 1 rfl) ?_;refine Oa [0,1,2,3,9,10,25] ?_;refine Om ?_ ?_
 ·intro c25;obtain⟨v,Qt,rfl⟩:∃ v Qt,Q=v::Qt:=by
   cases Q with
   | nil=>simp at c25
   | cons v Qt=>exact⟨v,Qt,rfl⟩
  refine OC [0,1,2,3,9,10] ?_;refine ch ?_;refine OH hS (i:=0) rfl hpq ?_;refine OD (hS.rd 1 rfl) (j:=0) rfl aD ?_;intro p29 hp29;refine Ke hp29 (hS.rd 1 rfl) aD ?_;show KOps _ _ _ _ _ _ _ ((30,.int .i64 v)::_) _;refine O1 hS ?_;intro p11 h' hp11 hS;refine Kf hS rfl (i:=0) rfl hp11 aG ?_;intro h' hS;refine On [0,1,2,3,9,10,11] ?_;refine bu ?_;refine OH hS (i:=0) rfl hp11 ?_;refine Oa [0,1,2,3,9,10,11,33] ?_;refine Om ?_ ?_
  ·intro c33;subst c33;obtain⟨vs,E0,hp,htr,-⟩:=hb.tr v aN;refine Oq ?_;refine KOps.makeMap hS rfl ?_;intro v34 h' hv34 hS;refine Oa [1,9,11,12] ?_;refine bg ?_;refine Kb (X:=Int × List (Int × Bool) × List (Int × Bool)) (fun y=>[(1,.int .i64 u),(9,p9),(11,p11),(12,v34)]) (fun y h'=>Trl M u y.1 y.2.2∧y.2.1 ++ y.2.2=E0∧St h h' [mapO v34 (entB y.2.1),⟨p11,0,[.int .i64 y.1],true⟩,⟨pq,0,[vq],true⟩,⟨vq,1,ints (v::Qt),tq⟩,⟨p9,0,[v17],true⟩,mapO v17 (entS M)]) (fun y=>y.2.2.length) (v,[],E0) ?_ ?_;exact⟨htr,rfl,hS⟩;rintro⟨cur,done,E1⟩ h5 ⟨htc,he,hS⟩;dsimp only at htc he hS⊢;refine bu ?_;refine OH hS (i:=1) rfl hp11 ?_;refine Oa [1,9,11,12,37] ?_;refine Kc ?_ ?_
   ·intro c37;refine OC [1,9,11,12] ?_;refine Oz ?_;refine Oq ?_;obtain⟨s,E2,hm,rfl,ht2⟩:=htc.go c37;refine OH hS (i:=4) rfl hp9 ?_;refine OH hS (i:=1) rfl hp11 ?_;refine KOps.lookupS (kf:=AV.int .i64) (vf:=stA) EvK.eq (St.rdM hS 5 rfl hv17) rfl hm ?_;refine O1 hS ?_;intro p13 h' hp13 hS;refine O7 hS rfl (i:=0) rfl hp13 aB aH aH aE ?_;intro h' hS;simp only[dN,dM,dP] at hS;refine On [1,9,11,12,13] ?_;refine Oc ?_;refine Ob hp13 ?_;intro p42 hp42;refine Oe hp42 (hS.rd 0 rfl) rfl ?_;refine Ob hp13 ?_;intro p44 hp44;refine Oe hp44 (hS.rd 0 rfl) rfl ?_;refine KOps.mapPutK (kf:=AV.int .i64) (vf:=AV.bool) (l:=done) (i:=1) (b:=s.b) EvK.eq rfl hS hv34 rfl rfl ?_;intro h' hS;simp only[dN,dM,dP] at hS;refine On [1,9,11,12,13] ?_;refine O3 rfl ?_;refine Ob hp13 ?_;intro p46 hp46;refine Oe hp46 (hS.rd 0 rfl) rfl ?_;refine Kf hS rfl (i:=2) rfl hp11 aG ?_;intro h' hS;refine Og ?_;refine Oj ?_;have hk:(s.w) ∉ done.map (·.1):=by
     have:=hp.keys;rw[←he,List.map_append,List.map_cons] at this;exact fun h0=>(List.nodup_append.1 this).2.2 _ h0 _ (List.mem_cons_self ..) rfl
    rw[mput_new hk] at hS;refine lpN (s.u,done ++ [(s.w,s.b)],E2) ⟨ht2,by simpa using he,St.tail hS⟩ (by dsimp only; simp)
   intro c37;refine bP ?_;refine Ox [12] ?_;refine Oa [8] ?_;refine Oh ?_;have hcu:cur=u:=by omega
   subst hcu;have hE:=htc.stop;subst hE;rw[List.append_nil] at he;subst he;obtain⟨bm,rfl⟩:=hv34;exact⟨false,[mapO (.mp bm) (entB done)],rfl,St.pick [0] aE rfl hS,fun h0=>absurd h0 aE,fun _=>⟨vs,_,hp,rfl⟩⟩
  intro c33;refine OC [0,1,2,3,9,10,11] ?_;refine Oq ?_;refine Qp ?_;refine Oa [0,1,2,3,9,10,11,14] ?_;refine Oc ?_;refine b9 ?_;intro p52 hp52;refine Ob hp52 ?_;intro p53 hp53;refine Oe hp53 (Rd.ext hS.keeps hf) rfl ?_;refine dG ?_;refine Oa [0,1,2,3,9,10,11,14,54,55,56] ?_;refine Oz ?_;refine Kb (X:=Nat × List (Int × Stp) × List Int × AV × Bool) (fun y=>[(0,pf),(3,.fn fa caps),(9,p9),(10,pq),(11,p11),(14,.fn 117 [p9,p11,pq]),(1,.int .i64 u),(2,.int .i64 z),(54,vW),(55,.int .i64 (ws.length:Int)),(56,.int .i64 (y.1:Int))]) (fun y h'=>y.1≤ws.length∧Bfs (r:Int) ws n A u y.2.1 P (v::y.2.2.1)∧Seen ws n A v (P ++ v::y.2.2.1) y.1∧St h h' [⟨pq,0,[y.2.2.2.1],true⟩,⟨y.2.2.2.1,1,ints (v::y.2.2.1),y.2.2.2.2⟩,⟨p9,0,[v17],true⟩,mapO v17 (entS y.2.1),⟨p11,0,[.int .i64 v],true⟩]) (fun y=>ws.length - y.1) (0,M,Qt,vq,tq) ?_ ?_;exact⟨fI _,hb,fun _ h0=>absurd h0 (Nat.not_lt_zero _),St.rot (A:=[_]) hS⟩;rintro⟨i,M,Qt,vq,tq⟩ h5 ⟨hi,hb,hseen,hS⟩;dsimp only at hi hb hseen hS⊢;refine cM ?_;refine Om ?_ ?_;intro c57;refine OC [0,1,2,3,9,10,11,14,54,55,56] ?_;refine bg ?_;refine Oc ?_;refine KZ KC (Rd.ext hS.keeps hv) (j:=i) rfl aD ?_;intro p59 hp59;refine K3 KC aE hp59 (Rd.ext hS.keeps hv) aD ?_;refine O1 hS ?_;intro p16 h' hp16 hS;refine Ov ?_;refine O7 hS rfl (i:=0) rfl hp16 aH aH aH aE ?_;intro h' hS;simp only[dN,dM,dP] at hS;have hS9:=St.rot (A:=[_]) hS;clear hS;have hS:=hS9;clear hS9;simp only[List.cons_append,List.nil_append] at hS;refine On [0,1,2,3,9,10,11,14,15,16,54,55,56] ?_;refine KA.meet (X:=List (Int × Stp) × List Int × AV × Bool) (fun y=>[(0,pf),(3,.fn fa caps),(9,p9),(10,pq),(11,p11),(14,.fn 117 [p9,p11,pq]),(1,.int .i64 u),(2,.int .i64 z),(54,vW),(55,.int .i64 (ws.length:Int)),(56,.int .i64 (i:Int)),(15,.int .i64 (i:Int)),(16,p16)]) (fun y h'=>Bfs (r:Int) ws n A u y.1 P (v::y.2.1)∧Seen ws n A v (P ++ v::y.2.1) i∧(A i=true→(ws.getD i default).f=v→n.getD i 0<(ws.getD i default).m→(ws.getD i default).t∈P ++ v::y.2.1)∧St h h' [⟨pq,0,[y.2.2.1],true⟩,⟨y.2.2.1,1,ints (v::y.2.1),y.2.2.2⟩,⟨p9,0,[v17],true⟩,mapO v17 (entS y.1),⟨p11,0,[.int .i64 v],true⟩,⟨p16,0,wc (ws.getD i default),true⟩]) ?_ ?_
  ·
    refine bX ?_;have hwi:=hB.way i aA;have hwf0:=hwi.f0;have hwf1:=hwi.f1;have hwt0:=hwi.t0;have hwt1:=hwi.t1;refine Ob hp16 ?_;intro p61 hp61;refine Oe hp61 (hS.rd 5 rfl) rfl ?_;refine OH hS (i:=4) rfl hp11 ?_;refine Oc ?_;refine Ow (dj:=65) rfl rfl true false rfl ?_ ?_;intro g65;have g65:=of_decide_eq_true g65;refine Oc ?_;refine Ou hpf ?_;refine Oi (dj:=65) rfl rfl ?_;refine Ob hpf ?_;intro p68 hp68;refine Oi (dj:=65) rfl rfl ?_;refine Oe hp68 (Rd.ext hS.keeps hf) rfl ?_;refine Oc ?_;refine OD (Row.ext hS.keeps hn) (j:=i) rfl aD ?_;intro p71 hp71;refine Oi (dj:=65) rfl rfl ?_;refine Ke hp71 (Row.ext hS.keeps hn) aD ?_;refine Oi (dj:=65) rfl rfl ?_;refine Ob hp16 ?_;intro p73 hp73;refine Oi (dj:=65) rfl rfl ?_;refine Oe hp73 (hS.rd 5 rfl) rfl ?_;refine Oc ?_;refine Ow (dj:=77) rfl rfl true false rfl ?_ ?_;intro g77;have g77:=of_decide_eq_true g77;refine Oc ?_;refine Ol rfl (hA _ i hS.keeps aA) ?_;rintro _ _ ⟨rfl,rfl⟩;refine Oa [0,1,2,3,9,10,11,14,15,16,54,55,56,66,67,68,69,70,71,72,73,74,75,78,79,80,81] ?_;refine Km ?_ ?_;intro c81;refine Oc ?_;refine Ob hp16 ?_;intro p83 hp83;refine Oe hp83 (hS.rd 5 rfl) rfl ?_;refine Of ?_;refine Ol rfl (put_c (i:=(i:Int)) (b:=true) (G:=[_]) hpq hp9 hp11 hv17 (by have:=hb.len aA; simp only[dT] at this⊢; omega) hS) ?_;rintro _ h9 ⟨vq2,tq2,hS9⟩;have hstep:JA ws n A v (ws.getD i default).t i true:=⟨by omega,c81,g65,rfl,g77⟩;obtain⟨Qt2,eQ,hb2,hsub,hin⟩:=hb.step hstep aA aA;rw[eQ] at hS9;clear hS;have hS:=hS9;clear hS9;refine Og ?_;exact mtN (_,Qt2,vq2,tq2) ⟨hb2,hseen.more hsub,fun _ _ _=>hin,hS⟩;intro c81;refine OB ?_;exact mtN (M,Qt,vq,tq) ⟨hb,hseen,fun a _ _=>absurd a (by rw[c81]; decide),hS⟩;intro g77;have g77:=of_decide_eq_false g77;refine Oa [0,1,2,3,9,10,11,14,15,16,54,55,56,66,67,68,69,70,71,72,73,74,75,78,79,80,81] ?_;refine OP ?_;refine OB ?_;exact mtN (M,Qt,vq,tq) ⟨hb,hseen,fun _ _ a=>absurd a g77,hS⟩;intro g65;have g65:=of_decide_eq_false g65;refine Oa [0,1,2,3,9,10,11,14,15,16,54,55,56,66,67,68,69,70,71,72,73,74,75,78,79,80,81] ?_;refine OP ?_;refine OB ?_;exact mtN (M,Qt,vq,tq) ⟨hb,hseen,fun _ a _=>absurd a g65,hS⟩
  ·
    rintro⟨M,Qt,vq,tq⟩ h6 ⟨hb,hseen,hhalf,hS⟩;dsimp only at hb hseen hhalf hS⊢;refine bX ?_;have hwi:=hB.way i aA;have hwf0:=hwi.f0;have hwf1:=hwi.f1;have hwt0:=hwi.t0;have hwt1:=hwi.t1;refine Ob hp16 ?_;intro p87 hp87;refine Oe hp87 (hS.rd 5 rfl) rfl ?_;refine OH hS (i:=4) rfl hp11 ?_;refine Oc ?_;refine Ow (dj:=91) rfl rfl true false rfl ?_ ?_;intro g91;have g91:=of_decide_eq_true g91;refine Oc ?_;refine Ou hpf ?_;refine Oi (dj:=91) rfl rfl ?_;refine Ob hpf ?_;intro p94 hp94;refine Oi (dj:=91) rfl rfl ?_;refine Oe hp94 (Rd.ext hS.keeps hf) rfl ?_;refine Oc ?_;refine OD (Row.ext hS.keeps hn) (j:=i) rfl aD ?_;intro p97 hp97;refine Oi (dj:=91) rfl rfl ?_;refine Ke hp97 (Row.ext hS.keeps hn) aD ?_;refine Oi (dj:=91) rfl rfl ?_;refine Ob hp16 ?_;intro p99 hp99;refine Oi (dj:=91) rfl rfl ?_;refine Oe hp99 (hS.rd 5 rfl) rfl ?_;refine Oc ?_;refine Ow (dj:=103) rfl rfl true false rfl ?_ ?_;intro g103;have g103:=of_decide_eq_true g103;refine Oc ?_;refine Ol rfl (hA _ i hS.keeps aA) ?_;rintro _ _ ⟨rfl,rfl⟩;refine dJ ?_;refine Km ?_ ?_;intro c107;refine Oc ?_;refine Ob hp16 ?_;intro p109 hp109;refine Oe hp109 (hS.rd 5 rfl) rfl ?_;refine Of ?_;refine Ol rfl (put_c (i:=(i:Int)) (b:=false) (G:=[_]) hpq hp9 hp11 hv17 (by have:=hb.len aA; simp only[dT] at this⊢; omega) hS) ?_;rintro _ h9 ⟨vq2,tq2,hS9⟩;have hstep:JA ws n A v (ws.getD i default).f i false:=⟨by omega,c107,g91,rfl,g103⟩;obtain⟨Qt2,eQ,hb2,hsub,hin⟩:=hb.step hstep aA aA;rw[eQ] at hS9;clear hS;have hS:=hS9;clear hS9;refine cU ?_;refine cL ?_;refine lpN (i+1,_,Qt2,vq2,tq2) ⟨by dsimp only; omega,hb2,(hseen.more hsub).succ (fun a b c=>hsub _ (hhalf a b c)) (fun _ _ _=>hin),St.keep (B:=[_]) hS⟩ aI;intro c107;refine b3 ?_;refine cL ?_;exact lpN (i+1,M,Qt,vq,tq) ⟨by dsimp only; omega,hb,hseen.succ hhalf (fun a _ _=>absurd a (by rw[c107]; decide)),St.keep (B:=[_]) hS⟩ aI;intro g103;have g103:=of_decide_eq_false g103;refine dJ ?_;refine OP ?_;refine b3 ?_;refine cL ?_;exact lpN (i+1,M,Qt,vq,tq) ⟨by dsimp only; omega,hb,hseen.succ hhalf (fun _ _ a=>absurd a g103),St.keep (B:=[_]) hS⟩ aI;intro g91;have g91:=of_decide_eq_false g91;refine dJ ?_;refine OP ?_;refine b3 ?_;refine cL ?_;exact lpN (i+1,M,Qt,vq,tq) ⟨by dsimp only; omega,hb,hseen.succ hhalf (fun _ a _=>absurd a g91),St.keep (B:=[_]) hS⟩ aI
  intro c57;refine cJ ?_;refine ba ?_;refine Ox [0,1,2,3,9,10] ?_;refine bu ?_;refine OH hS (i:=0) rfl hpq ?_;refine On [0,1,2,3,9,114] ?_;refine O3 rfl ?_;refine O1 hS ?_;intro p10 h' hp10 hS;refine Kf hS rfl (i:=0) rfl hp10 (by first|rfl|assumption|exact St.one hS (k:=2) rfl) ?_;intro h' hS;refine On [0,1,2,3,9,10] ?_;refine O3 rfl ?_;refine OH hS (i:=0) rfl hp10 ?_;refine KOps.sliceLo (hS.rd 2 rfl) (m:=Qt.length+1) (by simp[ints]) aE aA ?_;intro v27 hv27;refine Kf hS rfl (i:=0) rfl hp10 (by first|rfl|assumption|exact hv27.one) ?_;intro h' hS;refine Og ?_;have hlen:=hb.len aA;simp only[dT] at hlen;rw[show i=ws.length by omega] at hseen;have hS9:=St.slice hS (k:=2) rfl (m:=Qt.length+1) (by simp[ints]) hv27 aA aA;have e9:((ints (v::Qt)).drop (1*1)).take ((Qt.length+1 - 1)*1)=ints Qt:=by
   show(ints Qt).take _=_;exact fO (by simp[ints])
  refine lpN (M,P ++ [v],Qt,v27,false,p10) ⟨hb.next hseen,?_,hp10,?_⟩ ?_;simp only[List.mem_append,List.mem_singleton,not_or]; exact⟨hz,fun h0=>c33 h0.symm⟩;rw[←e9]; exact St.pick [0,2,3,4] aE rfl hS9;simp only[List.length_append,dV]; omega
 ·intro c25;refine cE ?_;have hQ:Q = []:=by
   cases Q with
   | nil=>rfl
   | cons a l=>simp at c25
  subst hQ;exact⟨true,[],rfl,St.ofK hS.keeps,fun _=>hb.no hz,fun h0=>absurd h0 aE⟩
end Go.Am
namespace Go.Am
theorem St.swap {h0 h:AHeap} {A B C:List Obj} (st:St h0 h (A ++ B ++ C)):St h0 h (B ++ A ++ C):=st.perm (List.perm_append_comm.append_right C)
theorem St.mid {h0 h:AHeap} {A B C:List Obj} (st:St h0 h (A ++ B ++ C)):St h0 h (A ++ C):=St.drop (A:=B) (by rw[←dZ]; exact St.swap st)
theorem St.sink2 {h0 h:AHeap} {a b c:Obj} {G:List Obj} (st:St h0 h (a::b::c::G)):St h0 h (b::c::a::G):=St.swap (A:=[a]) (B:=[b,c]) st
theorem Path.short {ws:List W} {n:List Int} {A:Nat→Bool} {u v:Int} {vs:List Int} {E:List (Int × Bool)} (p:Path ws n A u vs v E):E.length≤ws.length:=by
 have hr:∀ q∈E,0≤q.1∧q.1<ws.length:=fun q hq=>by obtain⟨j,h1,h2,_⟩:=p.ends q hq; omega
 have hnd:((E.map (·.1)).map Int.toNat).Nodup:=List.pairwise_map.2 (p.keys.imp_of_mem fun{x y} hx hy hne he=>by
  obtain⟨q,hq,rfl⟩:=dX.1 hx;obtain⟨q',hq',rfl⟩:=dX.1 hy;have h2:=hr q hq;have h3:=hr q' hq';omega)
 have h1:=Xi (m:=dQ ws.length) hnd (fun x hx=>by
  obtain⟨y,hy,rfl⟩:=dX.1 hx;obtain⟨q,hq,rfl⟩:=dX.1 hy;have:=hr q hq;exact dR.2 aA)
 simpa using h1
theorem X7 {rm:Int} {ws:List W} {n:List Int} (hB:BOk rm ws) (hw:Within ws n):∀ i,i<ws.length→0≤n.getD i 0∧n.getD i 0≤99:=by
 intro i hi;have h1:=hw.lo i hi;have h2:=hw.hi i hi;have h3:=hB.way i hi;have h4:=h3.l0;have h5:=h3.m1;omega
theorem RA {h0 h : AHeap} {rm : Int} {pf vn vm vW : AV} {ws : List W} {n : List Int} {A : Nat → Bool} {u v : Int} {vs : List Int} {E : List (Int × Bool)} {tf tn : Bool} {G : List Obj} (hpf : AddrOf pf pf 0 0) (hvm : Zp vm) (hB : BOk rm ws) (hw : Within ws n) (h0l : 0 < ws.length) (p : Path ws n A u vs v E)
    (hS:St h0 h (⟨pf,0,[.int .i64 rm,vW,vn],tf⟩::⟨vn,1,ints n,tn⟩::mapO vm (entB E)::G)) :
    ACalls Go.Proofs.Tryz.prog 82 [pf,vm] h (fun _ h'=>St h0 h' (⟨pf,0,[.int .i64 rm,vW,vn],tf⟩::⟨vn,1,ints (Qn E n),tn⟩::G)):=by
 have hl:=hw.len;have hwl:=hB.len;have hsh:=p.short;obtain⟨r,h',h1,h2⟩:=push_c hpf hvm (ns:=n) (by rintro rfl; simp at hl; omega) (fun q hq=>by obtain⟨j,h1,h2,_⟩:=p.ends q hq; omega) (fun x hx=>by
  obtain⟨i,hi,rfl⟩:=List.getElem_of_mem hx;have:=X7 hB hw i aA;rw[dU,dY hi] at this;simp only[Option.getD_some] at this;omega) aA hS
 rw[bumps_push] at h2;exact⟨r,h',h1,St.out (A:=[_,_]) h2⟩
theorem lower1_c {h:AHeap} {i k:Nat} {A:Nat→Bool} {p4 p5:AV} {fa:FuncId} {caps:List AV} (hp4:AddrOf p4 p4 0 0) (hp5:AddrOf p5 p5 0 0) (h4:Rd h p4 0 [.int .i64 (i:Int)]) (h5:Rd h p5 0 [.fn fa caps]) (hA:ACalls Go.Proofs.Tryz.prog fa ([.int .i64 (k:Int)] ++ caps) h (fun q h2=>q = .bool (A k)∧h=h2)):ACalls Go.Proofs.Tryz.prog 142 [.int .i64 (k:Int),p4,p5] h (fun q h'=>q = .bool (but i A k)∧h=h'):=by
 refine OI 13 [.tmp 4] Go.Proofs.Tryz.func142 rfl aE rfl rfl (dO rfl) ?_;show KA _ 13 _ _ [(0,.int .i64 (k:Int)),(1,p4),(2,p5)] _;refine Oa [0,1,2] ?_;refine Oc ?_;refine Oe hp4 h4 rfl ?_;refine Oc ?_;refine Ow (dj:=8) rfl rfl true false rfl ?_ ?_;intro g8;have g8:=ZC g8;refine Oe hp5 h5 rfl ?_;refine Oc ?_;refine Ol rfl (hA) ?_;rintro _ _ ⟨rfl,rfl⟩;refine bV ?_;refine cZ ?_;rw[but,decide_eq_false g8]; rfl;intro g8;have g8:=XI g8;refine bV ?_;refine cZ ?_;rw[but,decide_eq_true g8]; rfl
theorem raise1_c {h:AHeap} {i k:Nat} {p3:AV} (hp3:AddrOf p3 p3 0 0) (h3:Rd h p3 0 [.int .i64 (i:Int)]):ACalls Go.Proofs.Tryz.prog 143 [.int .i64 (k:Int),p3] h (fun q h'=>q = .bool (but i (fun _=>true) k)∧h=h'):=by
 refine OI 7 [.tmp 3] Go.Proofs.Tryz.func143 rfl aE rfl rfl (dO rfl) ?_;show KA _ 7 _ _ [(0,.int .i64 (k:Int)),(1,p3)] _;refine bw ?_;refine Oe hp3 h3 rfl ?_;refine Oa [3] ?_;refine Oh ?_;refine cZ ?_;rw[but,Bool.and_true]
theorem span1_c {h:AHeap} {k:Nat}:ACalls Go.Proofs.Tryz.prog 94 [.int .i64 (k:Int)] h (fun q h'=>q = .bool true∧h=h'):=by
 refine OI 3 [.tmp 2] Go.Proofs.Tryz.func94 rfl aE rfl rfl (dO rfl) ?_;show KA _ 3 _ _ [(0,.int .i64 (k:Int))] _;refine Oa [] ?_;refine bc ?_;refine Oh ?_;exact⟨rfl,rfl⟩
theorem found1_c {h:AHeap} {k:Nat}:ACalls Go.Proofs.Tryz.prog 77 [.int .i64 (k:Int)] h (fun q h'=>q = .bool true∧h=h'):=by
 refine OI 3 [.tmp 2] Go.Proofs.Tryz.func77 rfl aE rfl rfl (dO rfl) ?_;show KA _ 3 _ _ [(0,.int .i64 (k:Int))] _;refine Oa [] ?_;refine bc ?_;refine Oh ?_;exact⟨rfl,rfl⟩
theorem lower_c {h0 h:AHeap} {r:Nat} {i:Nat} {pf vW vn:AV} {ws:List W} {n:List Int} {tn:Bool} {G:List Obj} (hpf:AddrOf pf pf 0 0) (hv:Rd h0 vW 4 (flr wc ws)) (hB:BOk (r:Int) ws) (hfl:Flow ws n) (hi:i<ws.length) {A:Nat→Bool} {fa:FuncId} {caps:List AV} (hA:∀ (h':AHeap) (X:List Obj) (k:Nat),St h0 h' (X ++ G)→k<ws.length→ACalls Go.Proofs.Tryz.prog fa ([.int .i64 (k:Int)] ++ caps) h' (fun q h2=>q = .bool (A k)∧h'=h2)) (hS:St h0 h (⟨pf,0,[.int .i64 (r:Int),vW,vn],true⟩::⟨vn,1,ints n,tn⟩::G)):ACalls Go.Proofs.Tryz.prog 93 [pf,.int .i64 (i:Int),.fn fa caps] h (fun _ h'=>∃ n',St h0 h' (⟨pf,0,[.int .i64 (r:Int),vW,vn],true⟩::⟨vn,1,ints n',tn⟩::G)∧Flow ws n'∧Near i A n n'∧Low ws i A n'):=by
 refine OI 47 [] Go.Proofs.Tryz.func93 rfl aE rfl rfl (dO rfl) ?_;have hwi:=hB.way i hi;have hwf0:=hwi.f0;have hwf1:=hwi.f1;have hwt0:=hwi.t0;have hwt1:=hwi.t1;have hwl0:=hwi.l0;have hwm1:=hwi.m1;have hwl:=hB.len;show KA _ 47 _ _ [(0,pf),(1,.int .i64 (i:Int)),(2,.fn fa caps)] _;refine Oq ?_;refine KOps.box hS (l:=[_]) rfl ?_;intro p4 h' hp4 hS;refine KOps.box hS (l:=[_]) rfl ?_;intro p5 h' hp5 hS;refine On [0,4,5] ?_;refine cT ?_;refine b9 ?_;intro p10 hp10;refine Ob hp10 ?_;intro p11 hp11;refine Oe hp11 (hS.rd 2 rfl) rfl ?_;refine OH hS (i:=1) rfl hp4 ?_;refine KZ KC (Rd.ext hS.keeps hv) (j:=i) aD aD ?_;intro p14 hp14;refine K3 KC aE hp14 (Rd.ext hS.keeps hv) aD ?_;refine O1 hS ?_;intro p6 h' hp6 hS;refine O7 hS rfl (i:=0) rfl hp6 aB aH aH aE ?_;intro h' hS;simp only[dN,dM,dP] at hS;refine On [0,4,5,6] ?_;refine Oz ?_;refine Kb (X:=List Int) (fun c=>[(0,pf),(4,p4),(5,p5),(6,p6)]) (fun c h'=>Flow ws c∧Near i A n c∧St h0 h' (⟨pf,0,[.int .i64 (r:Int),vW,vn],true⟩::⟨vn,1,ints c,tn⟩::⟨p6,0,wc (ws.getD i default),true⟩::⟨p5,0,[.fn fa caps],true⟩::⟨p4,0,[.int .i64 (i:Int)],true⟩::G)) (fun c=>(c.getD i 0).toNat) n ?_ ?_;exact⟨hfl,Near.refl _ _ _,St.swap (A:=[_,_,_]) (B:=[_,_]) hS⟩;rintro c h3 ⟨hc,hnear,hS⟩;have hcb:=X7 hB hc.toWithin i hi;have hcl:=hc.len;refine Ot ?_;refine cT ?_;refine b9 ?_;intro p18 hp18;refine Oe hp18 (hS.rd 0 rfl) rfl ?_;refine OH hS (i:=4) rfl hp4 ?_;refine cq ?_;intro p21 hp21;refine Ke hp21 (hS.rd 1 rfl) aD ?_;refine Ob hp6 ?_;intro p23 hp23;refine Oe hp23 (hS.rd 2 rfl) rfl ?_;refine Oa [0,4,5,6,25] ?_;refine Om ?_ ?_;intro c25;refine OC [0,4,5,6] ?_;refine Oz ?_;refine Oc ?_;refine Ob hp6 ?_;intro p27 hp27;refine Oe hp27 (hS.rd 2 rfl) rfl ?_;refine Ob hp6 ?_;intro p29 hp29;refine Oe hp29 (hS.rd 2 rfl) rfl ?_;refine Qp ?_;refine Ol rfl (path_c hpf (hS.rd 0 rfl) (Rd.ext hS.keeps hv) (hS.rd 1 rfl) hB hc.len hwf0 hwf1 (A:=but i A) (by
  intro h' k hK hk;have hS':St h0 h' (_::_):=St.trans hS (St.ofK hK);exact lower1_c hp4 hp5 (hS'.rd 4 rfl) (hS'.rd 3 rfl) (hA h' [_,_,_,_,_] k hS' hk))) ?_
 rintro q h4 ⟨b,G9,hq,hG,hno,hyes⟩;have hS9:=St.trans hS hG;clear hS;refine Oa [0,4,5,6,7] ?_;refine Oc ?_;refine KOps.eqNilm (p:=(3,4)) aC hq ?_;refine On [0,4,5,6,7,34] ?_;refine Km ?_ ?_;intro c34;subst c34;refine Kn ?_;refine sqQ.ret ?_;refine Q1 ?_;refine lpQ.ret ?_;refine Q1 ?_;refine fnQ.ret0 ?_;exact⟨c,St.mid (A:=[_,_]) (B:=[_,_,_]) (St.drop hS9),hc,hnear,low_of hB.inR hc hi (hno rfl)⟩;intro c34;subst c34;obtain⟨vs,E,p,rfl⟩:=hyes rfl;have hS:=St.sink2 hS9;clear hS9;have hpl:=XV E c;have hsm:=p.same (Y6 i A);refine OC [0,4,5,6,7] ?_;refine Oc ?_;refine Ol rfl (RA hpf (AV.mapNil_mp hq) hB hc.toWithin aA p hS) ?_;rintro _ h5 hS;refine On [0,4,5,6] ?_;refine OR [] mixed rfl aC ?_;refine Of ?_;refine b9 ?_;intro p40 hp40;refine Oe hp40 (hS.rd 0 rfl) rfl ?_;refine OH hS (i:=4) rfl hp4 ?_;refine cq ?_;intro p43 hp43;refine Ke hp43 (hS.rd 1 rfl) aD ?_;refine Zx aD aD ?_;refine cq ?_;intro p46 hp46;refine KOps.storeI hS rfl (i:=1) rfl hp46 aD ?_;intro h' hS;refine Og ?_;refine Oj ?_;obtain⟨hf2,hn2,hg2⟩:=p.lower hc hi c25;rw[hsm] at hS;exact lpN ((Qn E c).set i (c.getD i 0 - 1)) ⟨hf2,hnear.trans hn2,hS⟩ (by rw[hg2]; omega);intro c25;refine cJ ?_;refine KK ?_;refine⟨c,St.mid (A:=[_,_]) (B:=[_,_,_]) hS,hc,hnear,?_⟩;intro m hm _;have:=hm.lo i hi;have:=hc.lo i hi;omega
theorem raise_c {h0 h:AHeap} {r:Nat} {i:Nat} {pf vW vn:AV} {ws:List W} {n:List Int} {tn:Bool} {G:List Obj} (hpf:AddrOf pf pf 0 0) (hv:Rd h0 vW 4 (flr wc ws)) (hB:BOk (r:Int) ws) (hfl:Flow ws n) (hi:i<ws.length) (hS:St h0 h (⟨pf,0,[.int .i64 (r:Int),vW,vn],true⟩::⟨vn,1,ints n,tn⟩::G)):ACalls Go.Proofs.Tryz.prog 95 [pf,.int .i64 (i:Int)] h (fun _ h'=>∃ n',St h0 h' (⟨pf,0,[.int .i64 (r:Int),vW,vn],true⟩::⟨vn,1,ints n',tn⟩::G)∧Flow ws n'∧Near i (fun _=>true) n n'∧High ws i (fun _=>true) n'):=by
 refine OI 45 [] Go.Proofs.Tryz.func95 rfl aE rfl rfl (dO rfl) ?_;have hwi:=hB.way i hi;have hwf0:=hwi.f0;have hwf1:=hwi.f1;have hwt0:=hwi.t0;have hwt1:=hwi.t1;have hwl0:=hwi.l0;have hwm1:=hwi.m1;have hwl:=hB.len;show KA _ 45 _ _ [(0,pf),(1,.int .i64 (i:Int))] _;refine Oq ?_;refine KOps.box hS (l:=[_]) rfl ?_;intro p3 h' hp3 hS;refine On [0,3] ?_;refine cT ?_;refine b9 ?_;intro p8 hp8;refine Ob hp8 ?_;intro p9 hp9;refine Oe hp9 (hS.rd 1 rfl) rfl ?_;refine OH hS (i:=0) rfl hp3 ?_;refine KZ KC (Rd.ext hS.keeps hv) (j:=i) aD aD ?_;intro p12 hp12;refine K3 KC aE hp12 (Rd.ext hS.keeps hv) aD ?_;refine O1 hS ?_;intro p4 h' hp4 hS;refine O7 hS rfl (i:=0) rfl hp4 aB aH aH aE ?_;intro h' hS;simp only[dN,dM,dP] at hS;refine On [0,3,4] ?_;refine Oz ?_;refine Kb (X:=List Int) (fun c=>[(0,pf),(3,p3),(4,p4)]) (fun c h'=>Flow ws c∧Near i (fun _=>true) n c∧St h0 h' (⟨pf,0,[.int .i64 (r:Int),vW,vn],true⟩::⟨vn,1,ints c,tn⟩::⟨p4,0,wc (ws.getD i default),true⟩::⟨p3,0,[.int .i64 (i:Int)],true⟩::G)) (fun c=>((ws.getD i default).m - c.getD i 0).toNat) n ?_ ?_;exact⟨hfl,Near.refl _ _ _,St.swap (A:=[_,_]) (B:=[_,_]) hS⟩;rintro c h3 ⟨hc,hnear,hS⟩;have hcb:=X7 hB hc.toWithin i hi;have hcl:=hc.len;refine Ot ?_;refine cT ?_;refine b9 ?_;intro p16 hp16;refine Oe hp16 (hS.rd 0 rfl) rfl ?_;refine OH hS (i:=3) rfl hp3 ?_;refine cq ?_;intro p19 hp19;refine Ke hp19 (hS.rd 1 rfl) aD ?_;refine Ob hp4 ?_;intro p21 hp21;refine Oe hp21 (hS.rd 2 rfl) rfl ?_;refine Oa [0,3,4,23] ?_;refine Om ?_ ?_;intro c23;refine OC [0,3,4] ?_;refine Oz ?_;refine Oc ?_;refine Ob hp4 ?_;intro p25 hp25;refine Oe hp25 (hS.rd 2 rfl) rfl ?_;refine Ob hp4 ?_;intro p27 hp27;refine Oe hp27 (hS.rd 2 rfl) rfl ?_;refine Qp ?_;refine Ol rfl (path_c hpf (hS.rd 0 rfl) (Rd.ext hS.keeps hv) (hS.rd 1 rfl) hB hc.len hwt0 hwt1 (A:=but i (fun _=>true)) (by
  intro h' k hK hk;have hS':St h0 h' (_::_):=St.trans hS (St.ofK hK);exact raise1_c hp3 (hS'.rd 3 rfl))) ?_
 rintro q h4 ⟨b,G9,hq,hG,hno,hyes⟩;have hS9:=St.trans hS hG;clear hS;refine Oa [0,3,4,5] ?_;refine Oc ?_;refine KOps.eqNilm (p:=(3,4)) aC hq ?_;refine On [0,3,4,5,32] ?_;refine Km ?_ ?_;intro c32;subst c32;refine Kn ?_;refine sqQ.ret ?_;refine Q1 ?_;refine lpQ.ret ?_;refine Q1 ?_;refine fnQ.ret0 ?_;exact⟨c,St.mid (A:=[_,_]) (B:=[_,_]) (St.drop hS9),hc,hnear,high_of hB.inR hc hi (hno rfl)⟩;intro c32;subst c32;obtain⟨vs,E,p,rfl⟩:=hyes rfl;have hS:=St.sink2 hS9;clear hS9;have hpl:=XV E c;have hsm:=p.same (Y6 i (fun _=>true));refine OC [0,3,4,5] ?_;refine Oc ?_;refine Ol rfl (RA hpf (AV.mapNil_mp hq) hB hc.toWithin aA p hS) ?_;rintro _ h5 hS;refine On [0,3,4] ?_;refine OR [] mixed rfl aC ?_;refine Of ?_;refine b9 ?_;intro p38 hp38;refine Oe hp38 (hS.rd 0 rfl) rfl ?_;refine OH hS (i:=3) rfl hp3 ?_;refine cq ?_;intro p41 hp41;refine Ke hp41 (hS.rd 1 rfl) aD ?_;refine Kt aD aD ?_;refine cq ?_;intro p44 hp44;refine KOps.storeI hS rfl (i:=1) rfl hp44 aD ?_;intro h' hS;refine Og ?_;refine Oj ?_;obtain⟨hf2,hn2,hg2⟩:=p.raise hc hi c23;rw[hsm] at hS;exact lpN ((Qn E c).set i (c.getD i 0+1)) ⟨hf2,hnear.trans hn2,hS⟩ (by rw[hg2]; omega);intro c23;refine cJ ?_;refine KK ?_;refine⟨c,St.mid (A:=[_,_]) (B:=[_,_]) hS,hc,hnear,?_⟩;intro m hm _;have:=hm.hi i hi;have:=hc.hi i hi;omega
end Go.Am
namespace Go.Am
theorem SL {rm:Int} {ws:List W} (hB:BOk rm ws):Within ws (ws.map (·.l)):=by
 have hg:∀ i,i<ws.length→(ws.map (·.l)).getD i 0=(ws.getD i default).l:=by
  intro i hi;rw[dU,fA,dU,dY hi];rfl
 exact⟨by simp,fun i hi=>by rw[hg i hi]; exact Int.le_refl _,fun i hi=>by rw[hg i hi]; exact(hB.way i hi).lm⟩
theorem mins_next {ws:List W} {i:Nat} (hi:i<ws.length):(ws.map (·.l)).take i ++ [(ws.getD i default).l]=(ws.map (·.l)).take (i+1):=by
 have hl:i<(ws.map (·.l)).length:=by simpa using hi
 rw[take_next hl];congr 1;rw[dU,dU,fA,dY hi];rfl
theorem keptL_flow {r:Nat} {ws:List W} {n:List Int} (hB:BOk (r:Int) ws) (hw:Within ws n) (h:((Qk r ws n ws.length).any fun x=>!decide (x=0))=false):Flow ws n:=by
 refine⟨hw,fun x=>?_⟩;by_cases hx:x<0∨(r:Int)≤x;exact Jf hB.inR n hx _ (Nat.le_refl _);have hg:=Zv (ws:=ws) (n:=n) (k:=ws.length) (show x.toNat<r by omega);rw[show((x.toNat:Nat):Int)=x by omega] at hg;rw[List.any_eq_false] at h;have hl:=Zw r ws n ws.length;have:=h ((Qk r ws n ws.length).getD x.toNat 0) (by
  rw[dU,dY aA];exact fE _)
 rw[hg] at this;simpa using this
theorem keptL_dev {r:Nat} {ws:List W} {n:List Int} (h:((Qk r ws n ws.length).any fun x=>!decide (x=0))=true):ZS ws n r≠0:=by
 intro h0;rw[List.any_eq_true] at h;obtain⟨x,hx,hne⟩:=h;unfold Qk at hx;obtain⟨y,hy,rfl⟩:=dX.1 hx;have:=TP h0 y (dR.1 hy);have h2:KM ws n (y:Int) ws.length=0:=this;rw[h2] at hne;exact absurd hne aE
def NoTo (ws:List W) (n:List Int) (r i j:Nat):Prop:=∀ a b:Nat,a<r→b<r→(a<i∨(a=i∧b<j))→¬ (0<kept ws n a∧kept ws n b<0∧∃ vs E,Path ws n (fun _=>true) a vs b E)
theorem NoTo.zero (ws:List W) (n:List Int) (r:Nat):NoTo ws n r 0 0:=fun a b _ _ h=>by omega
theorem NoTo.row {ws:List W} {n:List Int} {r i:Nat} (h:NoTo ws n r i r):NoTo ws n r (i+1) 0:=fun a b ha hb hc=>h a b ha hb aA
theorem NoTo.more {ws:List W} {n:List Int} {r i j:Nat} (h:NoTo ws n r i j) (hn:¬ (0<kept ws n i∧kept ws n j<0∧∃ vs E,Path ws n (fun _=>true) i vs j E)):NoTo ws n r i (j+1):=by
 intro a b ha hb hc;by_cases he:a=i∧b=j;obtain⟨rfl,rfl⟩:=he; exact hn;exact h a b ha hb aA
theorem agree_flow {rm:Int} {ws:List W} {n:List Int} (h0:KR rm ws=0) (hf:Flow ws n):KU rm ws=0:=by
 have hB:=BOk.of h0;have hr:InR ((rm.toNat:Nat):Int) ws:=by
  have:=hB.r2;rw[show((rm.toNat:Nat):Int)=rm by omega];exact hB.inR
 rw[KU,if_pos h0,QZ,decide_eq_true h0,(Ui hr hB.LM).2 ⟨n,hf⟩];rfl
theorem NoTo.lost {r:Nat} {ws:List W} {n:List Int} (h0:KR (r:Int) ws=0) (hw:Within ws n) (hd:ZS ws n r≠0) (h:NoTo ws n r r 0):KU (r:Int) ws=12:=by
 have hB:=BOk.of h0;rcases Jx hB.inR hw hd with ⟨u,v,hu,hv,h1,h2,h3⟩|⟨s,hs,hp⟩
 exact absurd ⟨h1,h2,h3⟩ (h u v hu hv (.inl hu))
 ·have hc:YH r ws=false:=by
   cases hb:YH r ws with
   | false=>rfl
   | true=>rw[canB_iff.1 hb s hs] at hp; cases hp
  rw[KU,if_pos h0,QZ,decide_eq_true h0,Int.toNat_natCast,hc];rfl
theorem VR {h:AHeap} {rm:Int} {vW:AV} {ws:List W} (hv:Rd h vW 4 (flr wc ws)):ACalls Go.Proofs.Tryz.prog 47 [.agg [.int .i64 rm,vW]] h (fun q h'=>∃ qp,q = .tup [qp,.int .i64 (KU rm ws)]∧Keeps h h'∧qp.one=true∧(KU rm ws=0→∃ n vn,AddrOf qp qp 0 0∧Flow ws n∧St h h' [⟨qp,0,[.int .i64 rm,vW,vn],true⟩,⟨vn,1,ints n,true⟩])):=by
 refine OI 80 [.tmp 2,.tmp 3] Go.Proofs.Tryz.func47 rfl aE rfl rfl (dO rfl) ?_;have hS:=St.refl h;have hvo:vW.one=true:=hv.one;show KA _ 80 _ _ [(0,.agg [.int .i64 rm,vW])] _;refine bZ ?_;intro p1 h' hp1 hS;refine Oa [1] ?_;refine KA.scope ?_;refine bu ?_;refine OM hS (i:=0) rfl hp1 aH aE ?_;refine Ol rfl (check_c (Rd.ext hS.keeps hv)) ?_;rintro _ h5 ⟨rfl,hK⟩;replace hS:St _ _ (_::_):=St.trans hS (St.ofK hK);refine Oa [1,4] ?_;refine Oa [1,4,18] ?_;refine Kc ?_ ?_;intro c18;refine bt ?_;have e0:KU rm ws=KR rm ws:=by rw[KU,if_neg c18]
 rw[e0];exact⟨_,rfl,hS.keeps,rfl,fun h0=>absurd h0 c18⟩
 ·intro c18;obtain⟨r,rfl⟩:∃ r:Nat,rm=(r:Int):=⟨rm.toNat,by have:=(BOk.of c18).r2; omega⟩;have hB:=BOk.of c18;have hr6:=hB.r6;have hwl:=hB.len;refine OC [1] ?_;refine Oq ?_;refine OM hS (i:=0) rfl hp1 aH aE ?_;refine KOps.buildA1 (z0:=.int .i64 0) (z1:=.nils) (z2:=.nils) aC aH aC aC aG aG ?_;refine OJ hS aB ?_;intro p22 h' hp22 hS;refine Oa [1,5] ?_;refine bu ?_;refine Ob hp1 ?_;intro p23 hp23;refine Oe hp23 (hS.rd 1 rfl) rfl ?_;refine dG ?_;refine Oa [5,24,25,26] ?_;refine Oz ?_;refine Kb (X:=Nat × AV) (fun x=>[(5,p22),(24,vW),(25,.int .i64 (ws.length:Int)),(26,.int .i64 (x.1:Int))]) (fun x h'=>x.1≤ws.length∧St h h' [⟨p22,0,[.int .i64 (r:Int),vW,x.2],true⟩,⟨p1,0,[.int .i64 (r:Int),vW],true⟩,⟨x.2,1,ints ((ws.map (·.l)).take x.1),true⟩]) (fun x=>ws.length - x.1) (0,.nils) ?_ ?_;exact⟨fI _,St.addNil 1 true hS⟩;rintro⟨i,vn⟩ h6 ⟨hi,hS⟩;dsimp only at hi hS⊢;refine cM ?_;refine Om ?_ ?_
  ·intro c27;refine OC [5,24,25,26] ?_;refine ch ?_;refine KZ KC (Rd.ext hS.keeps hv) (j:=i) rfl aD ?_;intro p28 hp28;refine K3 KC aE hp28 (Rd.ext hS.keeps hv) aD ?_;refine O1 hS ?_;intro p7 h' hp7 hS;refine O7 hS rfl (i:=0) rfl hp7 aB aH aH aE ?_;intro h' hS;simp only[dN,dM,dP] at hS;refine On [5,7,24,25,26] ?_;refine OR [8] mixed rfl aC ?_;refine Oc ?_;refine Ou hp22 ?_;refine Ob hp22 ?_;intro p33 hp33;refine Oe hp33 (hS.rd 1 rfl) rfl ?_;refine Ob hp7 ?_;intro p35 hp35;refine Oe hp35 (hS.rd 0 rfl) rfl ?_;refine bo ?_;intro v37 h' hS;refine KOps.appendI hS (fun _=>rfl) (i:=3) rfl aD ?_;intro r38 h' hr38 hS;refine Ou hp22 ?_;refine Ob hp22 ?_;intro p40 hp40;refine KY hS rfl (i:=1) rfl hp40 hr38 aV ?_;intro h' hS;simp only[dN,dM,dP] at hS;refine cU ?_;refine Ox [5,24,25,26] ?_;refine bT ?_;rw[mins_next aA] at hS;exact lpN (i+1,r38) ⟨by dsimp only; omega,St.tail hS⟩ aI
  intro c27;refine bP ?_;refine Ox [5] ?_;refine cM ?_;refine KA.label ?_;refine Od ?_;refine Oz ?_;refine Kb (X:=List Int × AV) (fun x=>[(5,p22),(8,.fn 77 [])]) (fun x h'=>Within ws x.1∧St h h' [⟨p22,0,[.int .i64 (r:Int),vW,x.2],true⟩,⟨x.2,1,ints x.1,true⟩,⟨p1,0,[.int .i64 (r:Int),vW],true⟩]) (fun x=>ZS ws x.1 r) (ws.map (·.l),vn) ?_ ?_;refine⟨SL hB,?_⟩;have e:(ws.map (·.l)).take i=ws.map (·.l):=fO am;rw[e] at hS;exact St.pick [0,2,1] aE rfl hS;rintro⟨n,vn⟩ h6 ⟨hw,hS⟩;dsimp only at hw hS⊢;refine Oz ?_;refine Oc ?_;refine Ol rfl (kept_c hp22 (hS.rd 0 rfl) (Rd.ext hS.keeps hv) (hS.rd 1 rfl) hB hw.len (X7 hB hw)) ?_;rintro vk h6 hK;replace hS:St _ _ (_::_):=St.trans hS hK;refine Oa [5,8,9] ?_;refine Oc ?_;refine Ol rfl (anyNz_c (hS.rd 0 rfl) (by rw[Zw]; omega) (fun _ _=>nz90_c)) ?_;rintro _ h7 ⟨rfl,rfl⟩;refine Oa [5,8,9,46] ?_;refine Km ?_ ?_;intro c46;refine bt ?_;have hfl:=keptL_flow hB hw (by simpa using c46);have e0:=agree_flow c18 hfl;rw[e0];exact⟨_,rfl,hS.keeps,St.one hS (k:=1) rfl,fun _=>⟨n,vn,hp22,hfl,St.pick [1,2] aE rfl hS⟩⟩;intro c46;refine OC [5,8,9] ?_;refine Oc ?_;refine Kk (hS.rd 0 rfl) ?_;refine Of ?_;refine b6 ?_;refine Oz ?_;refine Kb (X:=Nat) (fun i=>[(5,p22),(8,.fn 77 []),(9,vk),(48,vk),(49,.int .i64 ((Qk r ws n ws.length).length:Int)),(50,.int .i64 (i:Int))]) (fun i h'=>i≤r∧NoTo ws n r i 0∧St h h' [⟨vk,1,ints (Qk r ws n ws.length),true⟩,⟨p22,0,[.int .i64 (r:Int),vW,vn],true⟩,⟨vn,1,ints n,true⟩,⟨p1,0,[.int .i64 (r:Int),vW],true⟩]) (fun i=>r - i) 0 ?_ ?_;exact⟨fI _,NoTo.zero _ _ _,hS⟩;rintro i h8 ⟨hi,hno0,hS⟩;have hkl:=Zw r ws n ws.length;refine cM ?_;refine Om ?_ ?_;intro c51;refine OC [5,8,9,48,49,50] ?_;refine bg ?_;refine Oc ?_;refine OD (hS.rd 0 rfl) (j:=i) rfl aD ?_;intro p53 hp53;refine Ke hp53 (hS.rd 0 rfl) aD ?_;refine Oa [5,8,9,10,11,48,49,50] ?_;refine Oc ?_;refine Kk (hS.rd 0 rfl) ?_;refine Of ?_;refine b6 ?_;refine Oz ?_;refine Kb (X:=Nat) (fun j=>[(5,p22),(8,.fn 77 []),(9,vk),(48,vk),(49,.int .i64 ((Qk r ws n ws.length).length:Int)),(50,.int .i64 (i:Int)),(10,.int .i64 (i:Int)),(11,.int .i64 ((Qk r ws n ws.length).getD i 0)),(55,vk),(56,.int .i64 ((Qk r ws n ws.length).length:Int)),(57,.int .i64 (j:Int))]) (fun j h'=>j≤r∧NoTo ws n r i j∧St h h' [⟨vk,1,ints (Qk r ws n ws.length),true⟩,⟨p22,0,[.int .i64 (r:Int),vW,vn],true⟩,⟨vn,1,ints n,true⟩,⟨p1,0,[.int .i64 (r:Int),vW],true⟩]) (fun j=>r - j) 0 ?_ ?_;exact⟨fI _,hno0,hS⟩;rintro j h9 ⟨hj,hnoj,hS⟩;have hkl:=Zw r ws n ws.length;refine cM ?_;refine Om ?_ ?_;intro c58;refine OC [5,8,9,10,11,48,49,50,55,56,57] ?_;refine bg ?_;refine Oc ?_;refine OD (hS.rd 0 rfl) (j:=j) rfl aD ?_;intro p60 hp60;refine Ke hp60 (hS.rd 0 rfl) aD ?_;refine Oa [5,8,9,10,11,12,13,48,49,50,55,56,57] ?_;refine bu ?_;have hgi:(Qk r ws n ws.length).getD i 0=kept ws n (i:Int):=Zv (show i<r by omega);have hgj:(Qk r ws n ws.length).getD j 0=kept ws n (j:Int):=Zv (show j<r by omega);refine Oc ?_;refine Ow (dj:=64) rfl rfl false true rfl ?_ ?_;intro g64;have g64:=of_decide_eq_false g64;refine Oa [5,8,9,10,11,12,48,49,50,55,56,57,65,66,67] ?_;refine Om ?_ ?_;intro c67;refine Ka ?_;refine OV ?_;refine O2 ?_;refine Od ?_;refine Ox [5,8,9,10,11,48,49,50,55,56,57,65,66] ?_;refine bT ?_;exact lpN (j+1) ⟨by omega,hnoj.more (fun h0=>by have:=h0.2.1; omega),hS⟩ aA;intro c67;refine OC [5,8,9,10,11,12,48,49,50,55,56,57,65,66] ?_;refine Oc ?_;refine Ol rfl (path_c hp22 (hS.rd 1 rfl) (Rd.ext hS.keeps hv) (hS.rd 2 rfl) hB hw.len aA aA (A:=fun _=>true) (fun _ _ _ _=>found1_c)) ?_;rintro q h8 ⟨b,G9,hq,hG,hno,hyes⟩;have hS9:=St.trans hS hG;clear hS;refine Oa [5,8,9,10,11,14,48,49,50,55,56,57,65,66] ?_;refine Oc ?_;refine KOps.neqNilm (p:=(3,4)) aC hq ?_;refine On [5,8,9,10,11,14,48,49,50,55,56,57,65,66,74] ?_;refine Km ?_ ?_;intro c74;have hb:b=false:=by simpa using c74
  subst hb;obtain⟨vs,E,p,rfl⟩:=hyes rfl;have hwp : 0<ws.length:=by
   rcases Nat.eq_zero_or_pos ws.length with h0|h0
   have h1:kept ws n (i:Int)=0:=by
    show KM ws n (i:Int) ws.length=0;rw[h0]; rfl
   omega;exact h0
  refine Oc ?_;refine Ol rfl (RA hp22 (AV.mapNil_mp hq) hB hw hwp p (St.swap (A:=[_,_]) (B:=[_,_]) hS9)) ?_;rintro _ h10 hS;refine On [5,8,65,66] ?_;refine Ka ?_;refine blQ.exit rfl ?_;refine OV ?_;refine O8 ?_;refine blQ.exit rfl ?_;refine blQ.exit rfl ?_;refine OV ?_;refine O8 ?_;refine blQ.exit rfl ?_;refine OV ?_;refine O2 ?_;have hd:=TO (p.kept hw.len) aA aA aA aA r;rw[if_pos aA,if_pos aA] at hd;exact lpN (Qn E n,vn) ⟨p.within hw,St.mid (A:=[_,_]) (B:=[_]) hS⟩ aI;intro c74;refine b3 ?_;refine Ox [5,8,9,10,11,48,49,50,55,56,57,65,66] ?_;refine bT ?_;exact lpN (j+1) ⟨by omega,hnoj.more (fun h0=>hno (by simpa using c74) h0.2.2),St.drop hS9⟩ aA;intro g64;have g64:=of_decide_eq_true g64;refine Oa [5,8,9,10,11,12,48,49,50,55,56,57,65,66,67] ?_;refine KL ?_;refine Ka ?_;refine OV ?_;refine O2 ?_;refine Od ?_;refine Ox [5,8,9,10,11,48,49,50,55,56,57,65,66] ?_;refine bT ?_;exact lpN (j+1) ⟨by omega,hnoj.more (fun h0=>by have:=h0.1; omega),hS⟩ aA;intro c58;refine cJ ?_;refine ba ?_;refine Ox [5,8,9,48,49,50] ?_;refine bT ?_;rw[show j=r by omega] at hnoj;exact lpN (i+1) ⟨by omega,hnoj.row,hS⟩ aA;intro c51;refine cE ?_;have hir:i=r:=by omega
  subst hir;have e0:=NoTo.lost c18 hw (keptL_dev (by simpa using c46)) hno0;rw[e0];exact⟨.nilp,rfl,hS.keeps,rfl,fun h0=>absurd h0 aE⟩
end Go.Am
namespace Go.Am
theorem lo_exists {ws:List W} {i:Nat} (h:∃ n,Flow ws n) (hi:i<ws.length):∃ v,IsLo ws i v:=by
 obtain⟨m,hm,hle⟩:=V9 (P:=fun n=>Flow ws n) (fun n=>(n.getD i 0 - (ws.getD i default).l).toNat) h;refine⟨m.getD i 0,⟨m,hm,rfl⟩,fun n hn=>?_⟩;have h1:=hle n hn;have h2:=hm.lo i hi;have h3:=hn.lo i hi;omega
theorem hi_exists {ws:List W} {i:Nat} (h:∃ n,Flow ws n) (hi:i<ws.length):∃ v,IsHi ws i v:=by
 obtain⟨m,hm,hle⟩:=V9 (P:=fun n=>Flow ws n) (fun n=>((ws.getD i default).m - n.getD i 0).toNat) h;refine⟨m.getD i 0,⟨m,hm,rfl⟩,fun n hn=>?_⟩;have h1:=hle n hn;have h2:=hm.hi i hi;have h3:=hn.hi i hi;omega
open Classical in
noncomputable def Qd (ws:List W) (i:Nat):Int:=if h:∃ v,IsLo ws i v then Classical.choose h else 0
open Classical in
noncomputable def K9 (ws:List W) (i:Nat):Int:=if h:∃ v,IsHi ws i v then Classical.choose h else 0
theorem Uk {ws:List W} {i:Nat} (h:∃ n,Flow ws n) (hi:i<ws.length):IsLo ws i (Qd ws i):=by
 have h2:=lo_exists h hi;unfold Qd;rw[dif_pos h2];exact Classical.choose_spec h2
theorem Uh {ws:List W} {i:Nat} (h:∃ n,Flow ws n) (hi:i<ws.length):IsHi ws i (K9 ws i):=by
 have h2:=hi_exists h hi;unfold K9;rw[dif_pos h2];exact Classical.choose_spec h2
theorem Low.isLo {ws:List W} {i:Nat} {n:List Int} (hf:Flow ws n) (h:Low ws i (fun _=>true) n):IsLo ws i (n.getD i 0):=⟨⟨n,hf,rfl⟩,fun m hm=>h m hm (fun _ _ hk=>by cases hk)⟩
theorem High.isHi {ws:List W} {i:Nat} {n:List Int} (hf:Flow ws n) (h:High ws i (fun _=>true) n):IsHi ws i (n.getD i 0):=⟨⟨n,hf,rfl⟩,fun m hm=>h m hm (fun _ _ hk=>by cases hk)⟩
def Zr (rm:Int) (ws:List W) (i:Int):Int:=if KR rm ws=0 then (if 0≤i∧i≤(ws.length:Int) - 1 then KU rm ws else 2) else KR rm ws
theorem Wh {rm:Int} {ws:List W} {i:Int} (h:Zr rm ws i=0):KU rm ws=0∧0≤i∧i<ws.length:=by
 unfold Zr at h;by_cases h1:KR rm ws=0;rw[if_pos h1] at h;by_cases h2 : 0≤i∧i≤(ws.length:Int) - 1;rw[if_pos h2] at h; exact⟨h,by omega,by omega⟩;rw[if_neg h2] at h; cases h;rw[if_neg h1] at h; exact absurd h h1
theorem span_c {h0 h:AHeap} {r:Nat} {i:Nat} {pf vW vn:AV} {ws:List W} {n:List Int} {tn:Bool} {G:List Obj} (hpf:AddrOf pf pf 0 0) (hv:Rd h0 vW 4 (flr wc ws)) (hB:BOk (r:Int) ws) (hfl:Flow ws n) (hi:i<ws.length) (hS:St h0 h (⟨pf,0,[.int .i64 (r:Int),vW,vn],true⟩::⟨vn,1,ints n,tn⟩::G)):ACalls Go.Proofs.Tryz.prog 60 [pf,.int .i64 (i:Int)] h (fun q h'=>q = .tup [.int .i64 (Qd ws i),.int .i64 (K9 ws i)]∧∃ n',St h0 h' (⟨pf,0,[.int .i64 (r:Int),vW,vn],true⟩::⟨vn,1,ints n',tn⟩::G)∧Flow ws n'):=by
 refine OI 27 [.tmp 4,.tmp 5] Go.Proofs.Tryz.func60 rfl aE rfl rfl (dO rfl) ?_;show KA _ 27 _ _ [(0,pf),(1,.int .i64 (i:Int))] _;refine bw ?_;refine Ol rfl (lower_c (i:=i) (A:=fun _=>true) hpf hv hB hfl hi (fun _ _ _ _ _=>span1_c) hS) ?_;rintro _ h4 ⟨c2,hS4,hf2,hn2,hl2⟩;clear hS;have hS:=hS4;clear hS4;have hcl:=hf2.len;have e1:=(hl2.isLo hf2).uniq (Uk ⟨_,hf2⟩ hi);refine On [0,1] ?_;refine Oc ?_;refine b9 ?_;intro p11 hp11;refine Oe hp11 (hS.rd 0 rfl) rfl ?_;refine Of ?_;refine cq ?_;intro p14 hp14;refine Ke hp14 (hS.rd 1 rfl) aD ?_;refine Oa [0,1,4] ?_;refine Oc ?_;refine Ol rfl (raise_c (i:=i) hpf hv hB hf2 hi hS) ?_;rintro _ h5 ⟨c3,hS5,hf3,hn3,hl3⟩;clear hS;have hS:=hS5;clear hS5;have hcl3:=hf3.len;have e2:=(hl3.isHi hf3).uniq (Uh ⟨_,hf3⟩ hi);refine On [0,1,4] ?_;refine bX ?_;refine Oc ?_;refine b9 ?_;intro p22 hp22;refine Oe hp22 (hS.rd 0 rfl) rfl ?_;refine Of ?_;refine cq ?_;intro p25 hp25;refine Ke hp25 (hS.rd 1 rfl) aD ?_;refine cI ?_;exact⟨by rw[←e1,←e2],c3,hS,hf3⟩
end Go.Am
