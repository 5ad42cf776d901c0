/-
  Layer 01: a path: contract.
  Conditions: none.
-/
import Derived.Test.YtgnogfjajnnaoaaGreatDoorSCk
set_option maxRecDepth 99999
set_option maxHeartbeats 4000000
namespace Go.Am
section
variable {r:Int} {ws:List W} {n:List Int} {A:Nat→Bool} {u:Int} {M:List (Int × Stp)} {P Q:List Int}
theorem Bfs.step {v x : Int} {i : Nat} {more : Bool} {Qt : List Int} (b : Bfs r ws n A u M P (v :: Qt)) (s : Vd ws n A v x i more) (h0 : 0 ≤ x) (h1 : x < r) :
    ∃ Qt',putQ M (v::Qt) x=v::Qt'∧Bfs r ws n A u (putM M x ⟨i,v,more⟩) P (v::Qt')∧(∀ y,y∈P ++ v::Qt→y∈P ++ v::Qt')∧x∈P ++ v::Qt':=by
  unfold putQ putM;by_cases hx:(OB M x).isSome=true
  · rw[if_pos hx,if_pos hx];exact⟨Qt,rfl,b,fun y hy=>hy,(b.has x).1 hx⟩
  · rw[if_neg hx,if_neg hx];have hm:x ∉ P ++ v::Qt:=fun h=>hx ((b.has x).2 h)
    refine⟨Qt ++ [x],rfl,?_,?_,?_⟩
    · exact b.put (by simp) s h0 h1 hm
    · intro y hy;have:P ++ v::(Qt ++ [x])=(P ++ v::Qt) ++ [x]:=by simp
      rw[this]; exact List.mem_append_left _ hy
    · simp
theorem Seen.succ {v:Int} {K:List Int} {i:Nat} (h:Seen ws n A v K i) (h1:A i=true→(ws.getD i default).f=v→n.getD i 0<(ws.getD i default).m→(ws.getD i default).t∈K) (h2:A i=true→(ws.getD i default).t=v→(ws.getD i default).l<n.getD i 0→(ws.getD i default).f∈K):Seen ws n A v K (i+1):=by
 intro j hj hA;rcases Nat.lt_succ_iff_lt_or_eq.1 hj with h3|rfl
 ·exact h j h3 hA
 ·exact⟨h1 hA,h2 hA⟩
end
theorem path_c {h : AHeap} {r : Nat} {u z : Int} {pf vW vn : AV} {ws : List W} {n : List Int} {A : Nat → Bool} {fa : FuncId} {caps : List AV} (hpf : AddrOf pf pf 0 0) (hf : Rd h pf 0 [.int .i64 (r : Int), vW, vn]) (hv : Rd h vW 4 (flr wc ws)) (hn : Row h vn n) (hB : BOk (r : Int) ws) (hl : n.length = ws.length) (hu0 : 0 ≤ u) (hu1 : u < r)
    (hA:∀ (h':AHeap) (k:Nat),Keeps h h'→k<ws.length→ACalls Go.Proofs.Tryz.prog fa ([.int .i64 (k:Int)] ++ caps) h' (fun q h2=>q = .bool (A k)∧h'=h2)):ACalls Go.Proofs.Tryz.prog 218 [pf,.int .i64 u,.int .i64 z,.fn fa caps] h (fun q h'=>∃ b G,q.mapNil=some b∧St h h' G∧(b=true→¬ ∃ vs E,Path ws n A u vs z E)∧(b=false→∃ vs E,Path ws n A u vs z E∧G = [mapO q (entB E)])):=by
  refine OI 115 [.tmp 8] Go.Proofs.Tryz.func218 rfl (by decide) rfl rfl (Nat.le_of_ble_eq_true rfl) ?_;have hS:=St.refl h;have hr6:=hB.r6;have hwl:=hB.len;show KA _ 115 _ _ [(0,pf),(1,.int .i64 u),(2,.int .i64 z),(3,.fn fa caps)] _;refine Oa [0,1,2,3] ?_;refine Ov ?_;refine KOps.makeMap hS rfl ?_;intro v17 h' hv17 hS;refine Og ?_;refine KOps.buildS1 (z0:=.int .i64 0) (z1:=.int .i64 0) (z2:=.bool false) (by kernel_rfl) (by rfl) (by kernel_rfl) (by kernel_rfl) (by first|rfl|assumption) ?_;refine KOps.insertK (kf:=AV.int .i64) (vf:=stA) (l:=[]) (i:=0) (b:=⟨-1,0,false⟩) EvK.eq rfl hS hv17 rfl rfl ?_;intro h' hS;simp only[List.set_cons_zero,List.set_cons_succ,Nat.zero_add] at hS;refine Og ?_;refine Ks hS ?_;intro p9 h' hp9 hS;refine KP hS rfl (i:=0) rfl hp9 (by first|rfl|assumption|exact St.one hS (k:=1) rfl) ?_;intro h' hS;refine Oo [0,1,2,3,9] ?_;refine Oc ?_;refine OE hS rfl (by decide) rfl ?_;intro v22 h' hS;refine Ks hS ?_;intro p10 h' hp10 hS;refine KP hS rfl (i:=0) rfl hp10 (by first|rfl|assumption|exact St.one hS (k:=1) rfl) ?_;intro h' hS;refine Oo [0,1,2,3,9,10] ?_;refine Oy ?_;refine Kd (X:=List (Int × Stp) × List Int × List Int × AV × Bool × AV) (fun x=>[(0,pf),(1,.int .i64 u),(2,.int .i64 z),(3,.fn fa caps),(9,p9),(10,x.2.2.2.2.2)]) (fun x h'=>Bfs (r:Int) ws n A u x.1 x.2.1 x.2.2.1∧z ∉ x.2.1∧AddrOf x.2.2.2.2.2 x.2.2.2.2.2 0 0∧St h h' [⟨x.2.2.2.2.2,0,[x.2.2.2.1],true⟩,⟨x.2.2.2.1,1,ints x.2.2.1,x.2.2.2.2.1⟩,⟨p9,0,[v17],true⟩,mapO v17 (entS x.1)]) (fun x=>r - x.2.1.length) ([(u,⟨-1,0,false⟩)],[],[u],v22,true,p10) ?_ ?_
  · exact⟨Bfs.init hu0 hu1 _,by simp,hp10,hS⟩
  rintro⟨M,P,Q,vq,tq,pq⟩ h2 ⟨hb,hz,hpq,hS⟩;dsimp only at hb hz hpq hS⊢;refine Ot ?_;refine Ov ?_;refine O0 hS (i:=0) rfl hpq ?_;refine OT (hS.rd 1 rfl) ?_;refine Oa [0,1,2,3,9,10,25] ?_;refine Om ?_ ?_
  · intro c25;obtain⟨v,Qt,rfl⟩:∃ v Qt,Q=v::Qt:=by
      cases Q with
      | nil=>simp at c25
      | cons v Qt=>exact⟨v,Qt,rfl⟩
    refine Ox [0,1,2,3,9,10] ?_;refine Ot ?_;refine Oy ?_;refine Ov ?_;refine O0 hS (i:=0) rfl hpq ?_;refine Ou (hS.rd 1 rfl) (j:=0) rfl (by first|omega|(simp; omega)) ?_;intro p29 hp29;refine O9 hp29 (hS.rd 1 rfl) (by first|omega|(simp; omega)) ?_;show KOps _ _ _ _ _ _ _ ((30,.int .i64 v)::_) _;refine Ks hS ?_;intro p11 h' hp11 hS;refine KP hS rfl (i:=0) rfl hp11 (by first|rfl|assumption) ?_;intro h' hS;refine Oo [0,1,2,3,9,10,11] ?_;refine Ot ?_;refine Ov ?_;refine O0 hS (i:=0) rfl hp11 ?_;refine Oa [0,1,2,3,9,10,11,33] ?_;refine Om ?_ ?_
    · intro c33;subst c33;obtain⟨vs,E0,hp,htr,-⟩:=hb.tr v (by simp);refine Ov ?_;refine KOps.makeMap hS rfl ?_;intro v34 h' hv34 hS;refine Oa [1,9,11,12] ?_;refine Ot ?_;refine Oy ?_;refine Kd (X:=Int × List (Int × Bool) × List (Int × Bool)) (fun y=>[(1,.int .i64 u),(9,p9),(11,p11),(12,v34)]) (fun y h'=>Trl M u y.1 y.2.2∧y.2.1 ++ y.2.2=E0∧St h h' [mapO v34 (entB y.2.1),⟨p11,0,[.int .i64 y.1],true⟩,⟨pq,0,[vq],true⟩,⟨vq,1,ints (v::Qt),tq⟩,⟨p9,0,[v17],true⟩,mapO v17 (entS M)]) (fun y=>y.2.2.length) (v,[],E0) ?_ ?_
      · exact⟨htr,rfl,hS⟩
      rintro⟨cur,done,E1⟩ h5 ⟨htc,he,hS⟩;dsimp only at htc he hS⊢;refine Ot ?_;refine Ov ?_;refine O0 hS (i:=1) rfl hp11 ?_;refine Oa [1,9,11,12,37] ?_;refine O8 ?_ ?_
      · intro c37;refine Ox [1,9,11,12] ?_;refine Oy ?_;refine Ov ?_;obtain⟨s,E2,hm,rfl,ht2⟩:=htc.go c37;refine O0 hS (i:=4) rfl hp9 ?_;refine O0 hS (i:=1) rfl hp11 ?_;refine KOps.lookupS (kf:=AV.int .i64) (vf:=stA) EvK.eq (St.rdM hS 5 rfl hv17) rfl hm ?_;refine Ks hS ?_;intro p13 h' hp13 hS;refine Kv hS rfl (i:=0) rfl hp13 (by first|rfl|(simp[AV.one]; done)|(simp[AV.one]; assumption)|(simp[AV.one, *]; done)) (by rfl) (by rfl) (by decide) ?_;intro h' hS;simp only[List.set_cons_zero,List.set_cons_succ,Nat.zero_add] at hS;refine Oo [1,9,11,12,13] ?_;refine Oc ?_;refine Ob hp13 ?_;intro p42 hp42;refine Of hp42 (hS.rd 0 rfl) rfl ?_;refine Ob hp13 ?_;intro p44 hp44;refine Of hp44 (hS.rd 0 rfl) rfl ?_;refine KOps.mapPutK (kf:=AV.int .i64) (vf:=AV.bool) (l:=done) (i:=1) (b:=s.b) EvK.eq rfl hS hv34 rfl rfl ?_;intro h' hS;simp only[List.set_cons_zero,List.set_cons_succ,Nat.zero_add] at hS;refine Oo [1,9,11,12,13] ?_;refine Ke rfl ?_;refine Ob hp13 ?_;intro p46 hp46;refine Of hp46 (hS.rd 0 rfl) rfl ?_;refine KP hS rfl (i:=2) rfl hp11 (by first|rfl|assumption) ?_;intro h' hS;refine Oh ?_;refine Ol ?_;have hk:(s.w) ∉ done.map (·.1):=by
          have:=hp.keys;rw[←he,List.map_append,List.map_cons] at this;exact fun h0=>(List.nodup_append.1 this).2.2 _ h0 _ (List.mem_cons_self ..) rfl
        rw[mput_new hk] at hS;refine lpN (s.u,done ++ [(s.w,s.b)],E2) ⟨ht2,by simpa using he,St.tail hS⟩ (by dsimp only; simp)
      · intro c37;refine Kc ?_;refine OV ?_;refine O6 ?_;refine OZ ?_;refine Od ?_;refine Oq [12] ?_;refine Oa [8] ?_;refine Oj ?_;have hcu:cur=u:=by omega
        subst hcu;have hE:=htc.stop;subst hE;rw[List.append_nil] at he;subst he;obtain⟨bm,rfl⟩:=hv34;exact⟨false,[mapO (.mp bm) (entB done)],rfl,St.pick [0] (by decide) rfl hS,fun h0=>absurd h0 (by decide),fun _=>⟨vs,_,hp,rfl⟩⟩
    · intro c33;refine Ox [0,1,2,3,9,10,11] ?_;refine Ov ?_;refine Q3 ?_;refine Oa [0,1,2,3,9,10,11,14] ?_;refine Oc ?_;refine On hpf ?_;refine Ob hpf ?_;intro p52 hp52;refine Ob hp52 ?_;intro p53 hp53;refine Of hp53 (Rd.ext hS.keeps hf) rfl ?_;refine QS KL (Rd.ext hS.keeps hv) ?_;refine Oa [0,1,2,3,9,10,11,14,54,55,56] ?_;refine Oy ?_;refine Kd (X:=Nat × List (Int × Stp) × List Int × AV × Bool) (fun y=>[(0,pf),(3,.fn fa caps),(9,p9),(10,pq),(11,p11),(14,.fn 230 [p9,p11,pq]),(1,.int .i64 u),(2,.int .i64 z),(54,vW),(55,.int .i64 (ws.length:Int)),(56,.int .i64 (y.1:Int))]) (fun y h'=>y.1≤ws.length∧Bfs (r:Int) ws n A u y.2.1 P (v::y.2.2.1)∧Seen ws n A v (P ++ v::y.2.2.1) y.1∧St h h' [⟨pq,0,[y.2.2.2.1],true⟩,⟨y.2.2.2.1,1,ints (v::y.2.2.1),y.2.2.2.2⟩,⟨p9,0,[v17],true⟩,mapO v17 (entS y.2.1),⟨p11,0,[.int .i64 v],true⟩]) (fun y=>ws.length - y.1) (0,M,Qt,vq,tq) ?_ ?_
      · exact⟨Nat.zero_le _,hb,fun _ h0=>absurd h0 (Nat.not_lt_zero _),St.rot (A:=[_]) hS⟩
      rintro⟨i,M,Qt,vq,tq⟩ h5 ⟨hi,hb,hseen,hS⟩;dsimp only at hi hb hseen hS⊢;refine Oc ?_;refine Oh ?_;refine Od ?_;refine Ot ?_;refine Om ?_ ?_
      · intro c57;refine Ox [0,1,2,3,9,10,11,14,54,55,56] ?_;refine Ot ?_;refine Oy ?_;refine Oc ?_;refine Qa KL (Rd.ext hS.keeps hv) (j:=i) rfl (by first|omega|(simp; omega)) ?_;intro p59 hp59;refine Qb KL (by decide) hp59 (Rd.ext hS.keeps hv) (by first|omega|(simp; omega)) ?_;refine Ks hS ?_;intro p16 h' hp16 hS;refine OC ?_;refine Kv hS rfl (i:=0) rfl hp16 (by rfl) (by rfl) (by rfl) (by decide) ?_;intro h' hS;simp only[List.set_cons_zero,List.set_cons_succ,Nat.zero_add] at hS;have hS9:=St.rot (A:=[_]) hS;clear hS;have hS:=hS9;clear hS9;simp only[List.cons_append,List.nil_append] at hS;refine Oo [0,1,2,3,9,10,11,14,15,16,54,55,56] ?_;refine KA.meet (X:=List (Int × Stp) × List Int × AV × Bool) (fun y=>[(0,pf),(3,.fn fa caps),(9,p9),(10,pq),(11,p11),(14,.fn 230 [p9,p11,pq]),(1,.int .i64 u),(2,.int .i64 z),(54,vW),(55,.int .i64 (ws.length:Int)),(56,.int .i64 (i:Int)),(15,.int .i64 (i:Int)),(16,p16)]) (fun y h'=>Bfs (r:Int) ws n A u y.1 P (v::y.2.1)∧Seen ws n A v (P ++ v::y.2.1) i∧(A i=true→(ws.getD i default).f=v→n.getD i 0<(ws.getD i default).m→(ws.getD i default).t∈P ++ v::y.2.1)∧St h h' [⟨pq,0,[y.2.2.1],true⟩,⟨y.2.2.1,1,ints (v::y.2.1),y.2.2.2⟩,⟨p9,0,[v17],true⟩,mapO v17 (entS y.1),⟨p11,0,[.int .i64 v],true⟩,⟨p16,0,wc (ws.getD i default),true⟩]) ?_ ?_
        ·
          refine Ot ?_;refine OS [] mixed rfl (by kernel_rfl) ?_;have hwi:=hB.way i (by omega);have hwf0:=hwi.f0;have hwf1:=hwi.f1;have hwt0:=hwi.t0;have hwt1:=hwi.t1;refine Ob hp16 ?_;intro p61 hp61;refine Of hp61 (hS.rd 5 rfl) rfl ?_;refine O0 hS (i:=4) rfl hp11 ?_;refine Oc ?_;refine OD (dj:=65) rfl rfl true false rfl ?_ ?_
          · intro g65;have g65:=of_decide_eq_true g65;refine Oc ?_;refine On hpf ?_;refine Oe (dj:=65) rfl rfl ?_;refine Ob hpf ?_;intro p68 hp68;refine Oe (dj:=65) rfl rfl ?_;refine Of hp68 (Rd.ext hS.keeps hf) rfl ?_;refine Oc ?_;refine Ou (Row.ext hS.keeps hn) (j:=i) rfl (by first|omega|(simp; omega)) ?_;intro p71 hp71;refine Oe (dj:=65) rfl rfl ?_;refine O9 hp71 (Row.ext hS.keeps hn) (by first|omega|(simp; omega)) ?_;refine Oe (dj:=65) rfl rfl ?_;refine Ob hp16 ?_;intro p73 hp73;refine Oe (dj:=65) rfl rfl ?_;refine Of hp73 (hS.rd 5 rfl) rfl ?_;refine Oc ?_;refine OD (dj:=77) rfl rfl true false rfl ?_ ?_
            · intro g77;have g77:=of_decide_eq_true g77;refine Oc ?_;refine Oi rfl (hA _ i hS.keeps (by omega)) ?_;rintro _ _ ⟨rfl,rfl⟩;refine Oa [0,1,2,3,9,10,11,14,15,16,54,55,56,66,67,68,69,70,71,72,73,74,75,78,79,80,81] ?_;refine Ki ?_ ?_
              · intro c81;refine Oc ?_;refine Ob hp16 ?_;intro p83 hp83;refine Of hp83 (hS.rd 5 rfl) rfl ?_;refine Og ?_;refine Oi rfl (put_c (i:=(i:Int)) (b:=true) (G:=[_]) hpq hp9 hp11 hv17 (by have:=hb.len (by omega); simp only[List.length_cons] at this⊢; omega) hS) ?_;rintro _ h9 ⟨vq2,tq2,hS9⟩;have hstep:Vd ws n A v (ws.getD i default).t i true:=⟨by omega,c81,g65,rfl,g77⟩;obtain⟨Qt2,eQ,hb2,hsub,hin⟩:=hb.step hstep (by omega) (by omega);rw[eQ] at hS9;clear hS;have hS:=hS9;clear hS9;refine Oh ?_;exact mtN (_,Qt2,vq2,tq2) ⟨hb2,hseen.more hsub,fun _ _ _=>hin,hS⟩
              · intro c81;refine Ow ?_;exact mtN (M,Qt,vq,tq) ⟨hb,hseen,fun a _ _=>absurd a (by rw[c81]; decide),hS⟩
            · intro g77;have g77:=of_decide_eq_false g77;refine Oa [0,1,2,3,9,10,11,14,15,16,54,55,56,66,67,68,69,70,71,72,73,74,75,78,79,80,81] ?_;refine OH ?_;refine Ow ?_;exact mtN (M,Qt,vq,tq) ⟨hb,hseen,fun _ _ a=>absurd a g77,hS⟩
          · intro g65;have g65:=of_decide_eq_false g65;refine Oa [0,1,2,3,9,10,11,14,15,16,54,55,56,66,67,68,69,70,71,72,73,74,75,78,79,80,81] ?_;refine OH ?_;refine Ow ?_;exact mtN (M,Qt,vq,tq) ⟨hb,hseen,fun _ a _=>absurd a g65,hS⟩
        ·
          rintro⟨M,Qt,vq,tq⟩ h6 ⟨hb,hseen,hhalf,hS⟩;dsimp only at hb hseen hhalf hS⊢;refine Ot ?_;refine OS [] mixed rfl (by kernel_rfl) ?_;have hwi:=hB.way i (by omega);have hwf0:=hwi.f0;have hwf1:=hwi.f1;have hwt0:=hwi.t0;have hwt1:=hwi.t1;refine Ob hp16 ?_;intro p87 hp87;refine Of hp87 (hS.rd 5 rfl) rfl ?_;refine O0 hS (i:=4) rfl hp11 ?_;refine Oc ?_;refine OD (dj:=91) rfl rfl true false rfl ?_ ?_
          · intro g91;have g91:=of_decide_eq_true g91;refine Oc ?_;refine On hpf ?_;refine Oe (dj:=91) rfl rfl ?_;refine Ob hpf ?_;intro p94 hp94;refine Oe (dj:=91) rfl rfl ?_;refine Of hp94 (Rd.ext hS.keeps hf) rfl ?_;refine Oc ?_;refine Ou (Row.ext hS.keeps hn) (j:=i) rfl (by first|omega|(simp; omega)) ?_;intro p97 hp97;refine Oe (dj:=91) rfl rfl ?_;refine O9 hp97 (Row.ext hS.keeps hn) (by first|omega|(simp; omega)) ?_;refine Oe (dj:=91) rfl rfl ?_;refine Ob hp16 ?_;intro p99 hp99;refine Oe (dj:=91) rfl rfl ?_;refine Of hp99 (hS.rd 5 rfl) rfl ?_;refine Oc ?_;refine OD (dj:=103) rfl rfl true false rfl ?_ ?_
            · intro g103;have g103:=of_decide_eq_true g103;refine Oc ?_;refine Oi rfl (hA _ i hS.keeps (by omega)) ?_;rintro _ _ ⟨rfl,rfl⟩;refine Oa [0,1,2,3,9,10,11,14,15,16,54,55,56,92,93,94,95,96,97,98,99,100,101,104,105,106,107] ?_;refine Ki ?_ ?_
              · intro c107;refine Oc ?_;refine Ob hp16 ?_;intro p109 hp109;refine Of hp109 (hS.rd 5 rfl) rfl ?_;refine Og ?_;refine Oi rfl (put_c (i:=(i:Int)) (b:=false) (G:=[_]) hpq hp9 hp11 hv17 (by have:=hb.len (by omega); simp only[List.length_cons] at this⊢; omega) hS) ?_;rintro _ h9 ⟨vq2,tq2,hS9⟩;have hstep:Vd ws n A v (ws.getD i default).f i false:=⟨by omega,c107,g91,rfl,g103⟩;obtain⟨Qt2,eQ,hb2,hsub,hin⟩:=hb.step hstep (by omega) (by omega);rw[eQ] at hS9;clear hS;have hS:=hS9;clear hS9;refine Oh ?_;refine Ol ?_;refine Od ?_;refine Oq [0,1,2,3,9,10,11,14,54,55,56,92,93,94,95,96,97,98,99,100,101,104,105,106] ?_;refine Oc ?_;refine Oh ?_;refine lpN (i+1,_,Qt2,vq2,tq2) ⟨by dsimp only; omega,hb2,(hseen.more hsub).succ (fun a b c=>hsub _ (hhalf a b c)) (fun _ _ _=>hin),St.keep (B:=[_]) hS⟩ (by dsimp only; omega)
              · intro c107;refine Ow ?_;refine Ol ?_;refine Od ?_;refine Oq [0,1,2,3,9,10,11,14,54,55,56,92,93,94,95,96,97,98,99,100,101,104,105,106] ?_;refine Oc ?_;refine Oh ?_;exact lpN (i+1,M,Qt,vq,tq) ⟨by dsimp only; omega,hb,hseen.succ hhalf (fun a _ _=>absurd a (by rw[c107]; decide)),St.keep (B:=[_]) hS⟩ (by dsimp only; omega)
            · intro g103;have g103:=of_decide_eq_false g103;refine Oa [0,1,2,3,9,10,11,14,15,16,54,55,56,92,93,94,95,96,97,98,99,100,101,104,105,106,107] ?_;refine OH ?_;refine Ow ?_;refine Ol ?_;refine Od ?_;refine Oq [0,1,2,3,9,10,11,14,54,55,56,92,93,94,95,96,97,98,99,100,101,104,105,106] ?_;refine Oc ?_;refine Oh ?_;exact lpN (i+1,M,Qt,vq,tq) ⟨by dsimp only; omega,hb,hseen.succ hhalf (fun _ _ a=>absurd a g103),St.keep (B:=[_]) hS⟩ (by dsimp only; omega)
          · intro g91;have g91:=of_decide_eq_false g91;refine Oa [0,1,2,3,9,10,11,14,15,16,54,55,56,92,93,94,95,96,97,98,99,100,101,104,105,106,107] ?_;refine OH ?_;refine Ow ?_;refine Ol ?_;refine Od ?_;refine Oq [0,1,2,3,9,10,11,14,54,55,56,92,93,94,95,96,97,98,99,100,101,104,105,106] ?_;refine Oc ?_;refine Oh ?_;exact lpN (i+1,M,Qt,vq,tq) ⟨by dsimp only; omega,hb,hseen.succ hhalf (fun _ a _=>absurd a g91),St.keep (B:=[_]) hS⟩ (by dsimp only; omega)
      · intro c57;refine Kc ?_;refine OV ?_;refine O6 ?_;refine OZ ?_;refine Ol ?_;refine Od ?_;refine Oq [0,1,2,3,9,10] ?_;refine Ot ?_;refine Ov ?_;refine O0 hS (i:=0) rfl hpq ?_;refine Oo [0,1,2,3,9,114] ?_;refine Ke rfl ?_;refine Ks hS ?_;intro p10 h' hp10 hS;refine KP hS rfl (i:=0) rfl hp10 (by first|rfl|assumption|exact St.one hS (k:=2) rfl) ?_;intro h' hS;refine Oo [0,1,2,3,9,10] ?_;refine Ke rfl ?_;refine O0 hS (i:=0) rfl hp10 ?_;refine KOps.sliceLo (hS.rd 2 rfl) (m:=Qt.length+1) (by simp[ints]) (by decide) (by omega) ?_;intro v27 hv27;refine KP hS rfl (i:=0) rfl hp10 (by first|rfl|assumption|exact hv27.one) ?_;intro h' hS;refine Oh ?_;have hlen:=hb.len (by omega);simp only[List.length_cons] at hlen;rw[show i=ws.length by omega] at hseen;have hS9:=St.slice hS (k:=2) rfl (m:=Qt.length+1) (by simp[ints]) hv27 (by omega) (by omega);have e9:((ints (v::Qt)).drop (1*1)).take ((Qt.length+1 - 1)*1)=ints Qt:=by
          show(ints Qt).take _=_;exact List.take_of_length_le (by simp[ints])
        refine lpN (M,P ++ [v],Qt,v27,false,p10) ⟨hb.next hseen,?_,hp10,?_⟩ ?_
        · simp only[List.mem_append,List.mem_singleton,not_or]; exact⟨hz,fun h0=>c33 h0.symm⟩
        · rw[←e9]; exact St.pick [0,2,3,4] (by decide) rfl hS9
        · simp only[List.length_append,List.length_singleton]; omega
  · intro c25;refine Kc ?_;refine OV ?_;refine O6 ?_;refine OZ ?_;refine Od ?_;refine Oq [] ?_;refine Oc ?_;refine Oh ?_;refine Od ?_;refine Oj ?_;have hQ:Q = []:=by
      cases Q with
      | nil=>rfl
      | cons a l=>simp at c25
    subst hQ;exact⟨true,[],rfl,St.ofK hS.keeps,fun _=>hb.no hz,fun h0=>absurd h0 (by decide)⟩
end Go.Am
namespace Go.Am
theorem St.swap {h0 h:AHeap} {A B C:List Obj} (st:St h0 h (A ++ B ++ C)):St h0 h (B ++ A ++ C):=st.perm (List.perm_append_comm.append_right C)
theorem St.mid {h0 h:AHeap} {A B C:List Obj} (st:St h0 h (A ++ B ++ C)):St h0 h (A ++ C):=St.drop (A:=B) (by rw[←List.append_assoc]; exact St.swap st)
theorem St.sink2 {h0 h:AHeap} {a b c:Obj} {G:List Obj} (st:St h0 h (a::b::c::G)):St h0 h (b::c::a::G):=St.swap (A:=[a]) (B:=[b,c]) st
theorem Path.short {ws:List W} {n:List Int} {A:Nat→Bool} {u v:Int} {vs:List Int} {E:List (Int × Bool)} (p:Path ws n A u vs v E):E.length≤ws.length:=by
 have hr:∀ q∈E,0≤q.1∧q.1<ws.length:=fun q hq=>by obtain⟨j,h1,h2,_⟩:=p.ends q hq; omega
 have hnd:((E.map (·.1)).map Int.toNat).Nodup:=List.pairwise_map.2 (p.keys.imp_of_mem fun{x y} hx hy hne he=>by
  obtain⟨q,hq,rfl⟩:=List.mem_map.1 hx;obtain⟨q',hq',rfl⟩:=List.mem_map.1 hy;have h2:=hr q hq;have h3:=hr q' hq';omega)
 have h1:=ZL (m:=List.range ws.length) hnd (fun x hx=>by
  obtain⟨y,hy,rfl⟩:=List.mem_map.1 hx;obtain⟨q,hq,rfl⟩:=List.mem_map.1 hy;have:=hr q hq;exact List.mem_range.2 (by omega))
 simpa using h1
theorem Xi {rm:Int} {ws:List W} {n:List Int} (hB:BOk rm ws) (hw:Within ws n):∀ i,i<ws.length→0≤n.getD i 0∧n.getD i 0≤99:=by
 intro i hi;have h1:=hw.lo i hi;have h2:=hw.hi i hi;have h3:=hB.way i hi;have h4:=h3.l0;have h5:=h3.m1;omega
theorem J0 {h0 h : AHeap} {rm : Int} {pf vn vm vW : AV} {ws : List W} {n : List Int} {A : Nat → Bool} {u v : Int} {vs : List Int} {E : List (Int × Bool)} {tf tn : Bool} {G : List Obj} (hpf : AddrOf pf pf 0 0) (hvm : Zy vm) (hB : BOk rm ws) (hw : Within ws n) (h0l : 0 < ws.length) (p : Path ws n A u vs v E)
    (hS:St h0 h (⟨pf,0,[.int .i64 rm,vW,vn],tf⟩::⟨vn,1,ints n,tn⟩::mapO vm (entB E)::G)) :
    ACalls Go.Proofs.Tryz.prog 219 [pf,vm] h (fun _ h'=>St h0 h' (⟨pf,0,[.int .i64 rm,vW,vn],tf⟩::⟨vn,1,ints (K7 E n),tn⟩::G)):=by
  have hl:=hw.len;have hwl:=hB.len;have hsh:=p.short;obtain⟨r,h',h1,h2⟩:=push_c hpf hvm (ns:=n) (by rintro rfl; simp at hl; omega) (fun q hq=>by obtain⟨j,h1,h2,_⟩:=p.ends q hq; omega) (fun x hx=>by
    obtain⟨i,hi,rfl⟩:=List.getElem_of_mem hx;have:=Xi hB hw i (by omega);rw[List.getD_eq_getElem?_getD,List.getElem?_eq_getElem hi] at this;simp only[Option.getD_some] at this;omega) (by omega) hS
  rw[bumps_push] at h2;exact⟨r,h',h1,St.out (A:=[_,_]) h2⟩
theorem lower1_c {h:AHeap} {i k:Nat} {A:Nat→Bool} {p4 p5:AV} {fa:FuncId} {caps:List AV} (hp4:AddrOf p4 p4 0 0) (hp5:AddrOf p5 p5 0 0) (h4:Rd h p4 0 [.int .i64 (i:Int)]) (h5:Rd h p5 0 [.fn fa caps]) (hA:ACalls Go.Proofs.Tryz.prog fa ([.int .i64 (k:Int)] ++ caps) h (fun q h2=>q = .bool (A k)∧h=h2)):ACalls Go.Proofs.Tryz.prog 220 [.int .i64 (k:Int),p4,p5] h (fun q h'=>q = .bool (but i A k)∧h=h'):=by
 refine OI 13 [.tmp 4] Go.Proofs.Tryz.func220 rfl (by decide) rfl rfl (Nat.le_of_ble_eq_true rfl) ?_;show KA _ 13 _ _ [(0,.int .i64 (k:Int)),(1,p4),(2,p5)] _;refine Oa [0,1,2] ?_;refine Oc ?_;refine Of hp4 h4 rfl ?_;refine Oc ?_;refine OD (dj:=8) rfl rfl true false rfl ?_ ?_
 ·intro g8;have g8:=Qe g8;refine Of hp5 h5 rfl ?_;refine Oc ?_;refine Oi rfl (hA) ?_;rintro _ _ ⟨rfl,rfl⟩;refine Oa [4] ?_;refine Oj ?_;refine⟨congrArg AV.bool ?_,rfl⟩;rw[but,decide_eq_false g8]; rfl
 ·intro g8;have g8:=QN g8;refine Oa [4] ?_;refine Oj ?_;refine⟨congrArg AV.bool ?_,rfl⟩;rw[but,decide_eq_true g8]; rfl
theorem raise1_c {h:AHeap} {i k:Nat} {p3:AV} (hp3:AddrOf p3 p3 0 0) (h3:Rd h p3 0 [.int .i64 (i:Int)]):ACalls Go.Proofs.Tryz.prog 221 [.int .i64 (k:Int),p3] h (fun q h'=>q = .bool (but i (fun _=>true) k)∧h=h'):=by
 refine OI 7 [.tmp 3] Go.Proofs.Tryz.func221 rfl (by decide) rfl rfl (Nat.le_of_ble_eq_true rfl) ?_;show KA _ 7 _ _ [(0,.int .i64 (k:Int)),(1,p3)] _;refine Oa [0,1] ?_;refine Oc ?_;refine Of hp3 h3 rfl ?_;refine Oa [3] ?_;refine Oj ?_;refine⟨congrArg AV.bool ?_,rfl⟩;rw[but,Bool.and_true]
theorem span1_c {h:AHeap} {k:Nat}:ACalls Go.Proofs.Tryz.prog 195 [.int .i64 (k:Int)] h (fun q h'=>q = .bool true∧h=h'):=by
 refine OI 3 [.tmp 2] Go.Proofs.Tryz.func195 rfl (by decide) rfl rfl (Nat.le_of_ble_eq_true rfl) ?_;show KA _ 3 _ _ [(0,.int .i64 (k:Int))] _;refine Oa [] ?_;refine Oc ?_;refine Oh ?_;refine Od ?_;refine Oj ?_;exact⟨rfl,rfl⟩
theorem found1_c {h:AHeap} {k:Nat}:ACalls Go.Proofs.Tryz.prog 214 [.int .i64 (k:Int)] h (fun q h'=>q = .bool true∧h=h'):=by
 refine OI 3 [.tmp 2] Go.Proofs.Tryz.func214 rfl (by decide) rfl rfl (Nat.le_of_ble_eq_true rfl) ?_;show KA _ 3 _ _ [(0,.int .i64 (k:Int))] _;refine Oa [] ?_;refine Oc ?_;refine Oh ?_;refine Od ?_;refine Oj ?_;exact⟨rfl,rfl⟩
theorem lower_c {h0 h:AHeap} {r:Nat} {i:Nat} {pf vW vn:AV} {ws:List W} {n:List Int} {tn:Bool} {G:List Obj} (hpf:AddrOf pf pf 0 0) (hv:Rd h0 vW 4 (flr wc ws)) (hB:BOk (r:Int) ws) (hfl:Flow ws n) (hi:i<ws.length) {A:Nat→Bool} {fa:FuncId} {caps:List AV} (hA:∀ (h':AHeap) (X:List Obj) (k:Nat),St h0 h' (X ++ G)→k<ws.length→ACalls Go.Proofs.Tryz.prog fa ([.int .i64 (k:Int)] ++ caps) h' (fun q h2=>q = .bool (A k)∧h'=h2)) (hS:St h0 h (⟨pf,0,[.int .i64 (r:Int),vW,vn],true⟩::⟨vn,1,ints n,tn⟩::G)):ACalls Go.Proofs.Tryz.prog 194 [pf,.int .i64 (i:Int),.fn fa caps] h (fun _ h'=>∃ n',St h0 h' (⟨pf,0,[.int .i64 (r:Int),vW,vn],true⟩::⟨vn,1,ints n',tn⟩::G)∧Flow ws n'∧Near i A n n'∧Low ws i A n'):=by
 refine OI 47 [] Go.Proofs.Tryz.func194 rfl (by decide) rfl rfl (Nat.le_of_ble_eq_true rfl) ?_;have hwi:=hB.way i hi;have hwf0:=hwi.f0;have hwf1:=hwi.f1;have hwt0:=hwi.t0;have hwt1:=hwi.t1;have hwl0:=hwi.l0;have hwm1:=hwi.m1;have hwl:=hB.len;show KA _ 47 _ _ [(0,pf),(1,.int .i64 (i:Int)),(2,.fn fa caps)] _;refine Ov ?_;refine KOps.box hS (l:=[_]) rfl ?_;intro p4 h' hp4 hS;refine KOps.box hS (l:=[_]) rfl ?_;intro p5 h' hp5 hS;refine Oo [0,4,5] ?_;refine Ot ?_;refine OS [] mixed rfl (by kernel_rfl) ?_;refine Og ?_;refine On hpf ?_;refine Ob hpf ?_;intro p10 hp10;refine Ob hp10 ?_;intro p11 hp11;refine Of hp11 (hS.rd 2 rfl) rfl ?_;refine O0 hS (i:=1) rfl hp4 ?_;refine Qa KL (Rd.ext hS.keeps hv) (j:=i) (by first|omega|(simp; omega)) (by first|omega|(simp; omega)) ?_;intro p14 hp14;refine Qb KL (by decide) hp14 (Rd.ext hS.keeps hv) (by first|omega|(simp; omega)) ?_;refine Ks hS ?_;intro p6 h' hp6 hS;refine Kv hS rfl (i:=0) rfl hp6 (by first|rfl|(simp[AV.one]; done)|(simp[AV.one]; assumption)|(simp[AV.one, *]; done)) (by rfl) (by rfl) (by decide) ?_;intro h' hS;simp only[List.set_cons_zero,List.set_cons_succ,Nat.zero_add] at hS;refine Oo [0,4,5,6] ?_;refine Oy ?_;refine Kd (X:=List Int) (fun c=>[(0,pf),(4,p4),(5,p5),(6,p6)]) (fun c h'=>Flow ws c∧Near i A n c∧St h0 h' (⟨pf,0,[.int .i64 (r:Int),vW,vn],true⟩::⟨vn,1,ints c,tn⟩::⟨p6,0,wc (ws.getD i default),true⟩::⟨p5,0,[.fn fa caps],true⟩::⟨p4,0,[.int .i64 (i:Int)],true⟩::G)) (fun c=>(c.getD i 0).toNat) n ?_ ?_
 ·exact⟨hfl,Near.refl _ _ _,St.swap (A:=[_,_,_]) (B:=[_,_]) hS⟩
 rintro c h3 ⟨hc,hnear,hS⟩;have hcb:=Xi hB hc.toWithin i hi;have hcl:=hc.len;refine Ot ?_;refine Ot ?_;refine OS [] mixed rfl (by kernel_rfl) ?_;refine Og ?_;refine On hpf ?_;refine Ob hpf ?_;intro p18 hp18;refine Of hp18 (hS.rd 0 rfl) rfl ?_;refine O0 hS (i:=4) rfl hp4 ?_;refine Ou (hS.rd 1 rfl) (j:=i) (by first|omega|(simp; omega)) (by first|omega|(simp; omega)) ?_;intro p21 hp21;refine O9 hp21 (hS.rd 1 rfl) (by first|omega|(simp; omega)) ?_;refine Ob hp6 ?_;intro p23 hp23;refine Of hp23 (hS.rd 2 rfl) rfl ?_;refine Oa [0,4,5,6,25] ?_;refine Om ?_ ?_
 ·intro c25;refine Ox [0,4,5,6] ?_;refine Oy ?_;refine Oc ?_;refine Ob hp6 ?_;intro p27 hp27;refine Of hp27 (hS.rd 2 rfl) rfl ?_;refine Ob hp6 ?_;intro p29 hp29;refine Of hp29 (hS.rd 2 rfl) rfl ?_;refine Q3 ?_;refine Oi rfl (path_c hpf (hS.rd 0 rfl) (Rd.ext hS.keeps hv) (hS.rd 1 rfl) hB hc.len hwf0 hwf1 (A:=but i A) (by
   intro h' k hK hk;have hS':St h0 h' (_::_):=St.trans hS (St.ofK hK);exact lower1_c hp4 hp5 (hS'.rd 4 rfl) (hS'.rd 3 rfl) (hA h' [_,_,_,_,_] k hS' hk))) ?_
  rintro q h4 ⟨b,G9,hq,hG,hno,hyes⟩;have hS9:=St.trans hS hG;clear hS;refine Oa [0,4,5,6,7] ?_;refine Oc ?_;refine KOps.eqNilm (p:=(3,4)) (by kernel_rfl) hq ?_;refine Oo [0,4,5,6,7,34] ?_;refine Ki ?_ ?_
  ·intro c34;subst c34;refine KA.ret ?_;refine sqQ.ret ?_;refine blQ.ret ?_;refine lpQ.ret ?_;refine blQ.ret ?_;refine fnQ.ret0 ?_;exact⟨c,St.mid (A:=[_,_]) (B:=[_,_,_]) (St.drop hS9),hc,hnear,low_of hB.inR hc hi (hno rfl)⟩
  ·intro c34;subst c34;obtain⟨vs,E,p,rfl⟩:=hyes rfl;have hS:=St.sink2 hS9;clear hS9;have hpl:=Z8 E c;have hsm:=p.same (XX i A);refine Ox [0,4,5,6,7] ?_;refine Oc ?_;refine Oi rfl (J0 hpf (AV.mapNil_mp hq) hB hc.toWithin (by omega) p hS) ?_;rintro _ h5 hS;refine Oo [0,4,5,6] ?_;refine OS [] mixed rfl (by kernel_rfl) ?_;refine Og ?_;refine On hpf ?_;refine Ob hpf ?_;intro p40 hp40;refine Of hp40 (hS.rd 0 rfl) rfl ?_;refine O0 hS (i:=4) rfl hp4 ?_;refine Ou (hS.rd 1 rfl) (j:=i) (by first|omega|(simp; omega)) (by first|omega|(simp; omega)) ?_;intro p43 hp43;refine O9 hp43 (hS.rd 1 rfl) (by first|omega|(simp; omega)) ?_;refine QY (by first|omega|(simp; omega)) (by first|omega|(simp; omega)) ?_;refine Ou (hS.rd 1 rfl) (j:=i) (by first|omega|(simp; omega)) (by first|omega|(simp; omega)) ?_;intro p46 hp46;refine KOps.storeI hS rfl (i:=1) rfl hp46 (by first|omega|(simp; omega)) ?_;intro h' hS;refine Oh ?_;refine Ol ?_;obtain⟨hf2,hn2,hg2⟩:=p.lower hc hi c25;rw[hsm] at hS;exact lpN ((K7 E c).set i (c.getD i 0 - 1)) ⟨hf2,hnear.trans hn2,hS⟩ (by rw[hg2]; omega)
 ·intro c25;refine Kc ?_;refine OV ?_;refine O6 ?_;refine OZ ?_;refine KU ?_;refine⟨c,St.mid (A:=[_,_]) (B:=[_,_,_]) hS,hc,hnear,?_⟩;intro m hm _;have:=hm.lo i hi;have:=hc.lo i hi;omega
theorem raise_c {h0 h:AHeap} {r:Nat} {i:Nat} {pf vW vn:AV} {ws:List W} {n:List Int} {tn:Bool} {G:List Obj} (hpf:AddrOf pf pf 0 0) (hv:Rd h0 vW 4 (flr wc ws)) (hB:BOk (r:Int) ws) (hfl:Flow ws n) (hi:i<ws.length) (hS:St h0 h (⟨pf,0,[.int .i64 (r:Int),vW,vn],true⟩::⟨vn,1,ints n,tn⟩::G)):ACalls Go.Proofs.Tryz.prog 196 [pf,.int .i64 (i:Int)] h (fun _ h'=>∃ n',St h0 h' (⟨pf,0,[.int .i64 (r:Int),vW,vn],true⟩::⟨vn,1,ints n',tn⟩::G)∧Flow ws n'∧Near i (fun _=>true) n n'∧High ws i (fun _=>true) n'):=by
 refine OI 45 [] Go.Proofs.Tryz.func196 rfl (by decide) rfl rfl (Nat.le_of_ble_eq_true rfl) ?_;have hwi:=hB.way i hi;have hwf0:=hwi.f0;have hwf1:=hwi.f1;have hwt0:=hwi.t0;have hwt1:=hwi.t1;have hwl0:=hwi.l0;have hwm1:=hwi.m1;have hwl:=hB.len;show KA _ 45 _ _ [(0,pf),(1,.int .i64 (i:Int))] _;refine Ov ?_;refine KOps.box hS (l:=[_]) rfl ?_;intro p3 h' hp3 hS;refine Oo [0,3] ?_;refine Ot ?_;refine OS [] mixed rfl (by kernel_rfl) ?_;refine Og ?_;refine On hpf ?_;refine Ob hpf ?_;intro p8 hp8;refine Ob hp8 ?_;intro p9 hp9;refine Of hp9 (hS.rd 1 rfl) rfl ?_;refine O0 hS (i:=0) rfl hp3 ?_;refine Qa KL (Rd.ext hS.keeps hv) (j:=i) (by first|omega|(simp; omega)) (by first|omega|(simp; omega)) ?_;intro p12 hp12;refine Qb KL (by decide) hp12 (Rd.ext hS.keeps hv) (by first|omega|(simp; omega)) ?_;refine Ks hS ?_;intro p4 h' hp4 hS;refine Kv hS rfl (i:=0) rfl hp4 (by first|rfl|(simp[AV.one]; done)|(simp[AV.one]; assumption)|(simp[AV.one, *]; done)) (by rfl) (by rfl) (by decide) ?_;intro h' hS;simp only[List.set_cons_zero,List.set_cons_succ,Nat.zero_add] at hS;refine Oo [0,3,4] ?_;refine Oy ?_;refine Kd (X:=List Int) (fun c=>[(0,pf),(3,p3),(4,p4)]) (fun c h'=>Flow ws c∧Near i (fun _=>true) n c∧St h0 h' (⟨pf,0,[.int .i64 (r:Int),vW,vn],true⟩::⟨vn,1,ints c,tn⟩::⟨p4,0,wc (ws.getD i default),true⟩::⟨p3,0,[.int .i64 (i:Int)],true⟩::G)) (fun c=>((ws.getD i default).m - c.getD i 0).toNat) n ?_ ?_
 ·exact⟨hfl,Near.refl _ _ _,St.swap (A:=[_,_]) (B:=[_,_]) hS⟩
 rintro c h3 ⟨hc,hnear,hS⟩;have hcb:=Xi hB hc.toWithin i hi;have hcl:=hc.len;refine Ot ?_;refine Ot ?_;refine OS [] mixed rfl (by kernel_rfl) ?_;refine Og ?_;refine On hpf ?_;refine Ob hpf ?_;intro p16 hp16;refine Of hp16 (hS.rd 0 rfl) rfl ?_;refine O0 hS (i:=3) rfl hp3 ?_;refine Ou (hS.rd 1 rfl) (j:=i) (by first|omega|(simp; omega)) (by first|omega|(simp; omega)) ?_;intro p19 hp19;refine O9 hp19 (hS.rd 1 rfl) (by first|omega|(simp; omega)) ?_;refine Ob hp4 ?_;intro p21 hp21;refine Of hp21 (hS.rd 2 rfl) rfl ?_;refine Oa [0,3,4,23] ?_;refine Om ?_ ?_
 ·intro c23;refine Ox [0,3,4] ?_;refine Oy ?_;refine Oc ?_;refine Ob hp4 ?_;intro p25 hp25;refine Of hp25 (hS.rd 2 rfl) rfl ?_;refine Ob hp4 ?_;intro p27 hp27;refine Of hp27 (hS.rd 2 rfl) rfl ?_;refine Q3 ?_;refine Oi rfl (path_c hpf (hS.rd 0 rfl) (Rd.ext hS.keeps hv) (hS.rd 1 rfl) hB hc.len hwt0 hwt1 (A:=but i (fun _=>true)) (by
   intro h' k hK hk;have hS':St h0 h' (_::_):=St.trans hS (St.ofK hK);exact raise1_c hp3 (hS'.rd 3 rfl))) ?_
  rintro q h4 ⟨b,G9,hq,hG,hno,hyes⟩;have hS9:=St.trans hS hG;clear hS;refine Oa [0,3,4,5] ?_;refine Oc ?_;refine KOps.eqNilm (p:=(3,4)) (by kernel_rfl) hq ?_;refine Oo [0,3,4,5,32] ?_;refine Ki ?_ ?_
  ·intro c32;subst c32;refine KA.ret ?_;refine sqQ.ret ?_;refine blQ.ret ?_;refine lpQ.ret ?_;refine blQ.ret ?_;refine fnQ.ret0 ?_;exact⟨c,St.mid (A:=[_,_]) (B:=[_,_]) (St.drop hS9),hc,hnear,high_of hB.inR hc hi (hno rfl)⟩
  ·intro c32;subst c32;obtain⟨vs,E,p,rfl⟩:=hyes rfl;have hS:=St.sink2 hS9;clear hS9;have hpl:=Z8 E c;have hsm:=p.same (XX i (fun _=>true));refine Ox [0,3,4,5] ?_;refine Oc ?_;refine Oi rfl (J0 hpf (AV.mapNil_mp hq) hB hc.toWithin (by omega) p hS) ?_;rintro _ h5 hS;refine Oo [0,3,4] ?_;refine OS [] mixed rfl (by kernel_rfl) ?_;refine Og ?_;refine On hpf ?_;refine Ob hpf ?_;intro p38 hp38;refine Of hp38 (hS.rd 0 rfl) rfl ?_;refine O0 hS (i:=3) rfl hp3 ?_;refine Ou (hS.rd 1 rfl) (j:=i) (by first|omega|(simp; omega)) (by first|omega|(simp; omega)) ?_;intro p41 hp41;refine O9 hp41 (hS.rd 1 rfl) (by first|omega|(simp; omega)) ?_;refine KX (by first|omega|(simp; omega)) (by first|omega|(simp; omega)) ?_;refine Ou (hS.rd 1 rfl) (j:=i) (by first|omega|(simp; omega)) (by first|omega|(simp; omega)) ?_;intro p44 hp44;refine KOps.storeI hS rfl (i:=1) rfl hp44 (by first|omega|(simp; omega)) ?_;intro h' hS;refine Oh ?_;refine Ol ?_;obtain⟨hf2,hn2,hg2⟩:=p.raise hc hi c23;rw[hsm] at hS;exact lpN ((K7 E c).set i (c.getD i 0+1)) ⟨hf2,hnear.trans hn2,hS⟩ (by rw[hg2]; omega)
 ·intro c23;refine Kc ?_;refine OV ?_;refine O6 ?_;refine OZ ?_;refine KU ?_;refine⟨c,St.mid (A:=[_,_]) (B:=[_,_]) hS,hc,hnear,?_⟩;intro m hm _;have:=hm.hi i hi;have:=hc.hi i hi;omega
end Go.Am
namespace Go.Am
theorem Wu {rm:Int} {ws:List W} (hB:BOk rm ws):Within ws (ws.map (·.l)):=by
 have hg:∀ i,i<ws.length→(ws.map (·.l)).getD i 0=(ws.getD i default).l:=by
  intro i hi;rw[List.getD_eq_getElem?_getD,List.getElem?_map,List.getD_eq_getElem?_getD,List.getElem?_eq_getElem hi];rfl
 exact⟨by simp,fun i hi=>by rw[hg i hi]; exact Int.le_refl _,fun i hi=>by rw[hg i hi]; exact(hB.way i hi).lm⟩
theorem mins_next {ws:List W} {i:Nat} (hi:i<ws.length):(ws.map (·.l)).take i ++ [(ws.getD i default).l]=(ws.map (·.l)).take (i+1):=by
 have hl:i<(ws.map (·.l)).length:=by simpa using hi
 rw[take_next hl];congr 1;rw[List.getD_eq_getElem?_getD,List.getD_eq_getElem?_getD,List.getElem?_map,List.getElem?_eq_getElem hi];rfl
theorem keptL_flow {r:Nat} {ws:List W} {n:List Int} (hB:BOk (r:Int) ws) (hw:Within ws n) (h:((K6 r ws n ws.length).any fun x=>!decide (x=0))=false):Flow ws n:=by
  refine⟨hw,fun x=>?_⟩;by_cases hx:x<0∨(r:Int)≤x
  · exact V9 hB.inR n hx _ (Nat.le_refl _)
  · have hg:=Q7 (ws:=ws) (n:=n) (k:=ws.length) (show x.toNat<r by omega);rw[show((x.toNat:Nat):Int)=x by omega] at hg;rw[List.any_eq_false] at h;have hl:=Q8 r ws n ws.length;have:=h ((K6 r ws n ws.length).getD x.toNat 0) (by
      rw[List.getD_eq_getElem?_getD,List.getElem?_eq_getElem (by omega)];exact List.getElem_mem _)
    rw[hg] at this;simpa using this
theorem keptL_dev {r:Nat} {ws:List W} {n:List Int} (h:((K6 r ws n ws.length).any fun x=>!decide (x=0))=true):Zo ws n r≠0:=by
 intro h0;rw[List.any_eq_true] at h;obtain⟨x,hx,hne⟩:=h;unfold K6 at hx;obtain⟨y,hy,rfl⟩:=List.mem_map.1 hx;have:=UR h0 y (List.mem_range.1 hy);have h2:KQ ws n (y:Int) ws.length=0:=this;rw[h2] at hne;exact absurd hne (by decide)
def NoTo (ws:List W) (n:List Int) (r i j:Nat):Prop:=∀ a b:Nat,a<r→b<r→(a<i∨(a=i∧b<j))→¬ (0<kept ws n a∧kept ws n b<0∧∃ vs E,Path ws n (fun _=>true) a vs b E)
theorem NoTo.zero (ws:List W) (n:List Int) (r:Nat):NoTo ws n r 0 0:=fun a b _ _ h=>by omega
theorem NoTo.row {ws:List W} {n:List Int} {r i:Nat} (h:NoTo ws n r i r):NoTo ws n r (i+1) 0:=fun a b ha hb hc=>h a b ha hb (by omega)
theorem NoTo.more {ws:List W} {n:List Int} {r i j:Nat} (h:NoTo ws n r i j) (hn:¬ (0<kept ws n i∧kept ws n j<0∧∃ vs E,Path ws n (fun _=>true) i vs j E)):NoTo ws n r i (j+1):=by
 intro a b ha hb hc;by_cases he:a=i∧b=j
 ·obtain⟨rfl,rfl⟩:=he; exact hn
 ·exact h a b ha hb (by omega)
theorem agree_flow {rm:Int} {ws:List W} {n:List Int} (h0:Kx rm ws=0) (hf:Flow ws n):Qm rm ws=0:=by
 have hB:=BOk.of h0;have hr:InR ((rm.toNat:Nat):Int) ws:=by
  have:=hB.r2;rw[show((rm.toNat:Nat):Int)=rm by omega];exact hB.inR
 rw[Qm,if_pos h0,XY,decide_eq_true h0,(JV hr hB.LM).2 ⟨n,hf⟩];rfl
theorem NoTo.lost {r:Nat} {ws:List W} {n:List Int} (h0:Kx (r:Int) ws=0) (hw:Within ws n) (hd:Zo ws n r≠0) (h:NoTo ws n r r 0):Qm (r:Int) ws=12:=by
 have hB:=BOk.of h0;rcases Va hB.inR hw hd with ⟨u,v,hu,hv,h1,h2,h3⟩|⟨s,hs,hp⟩
 ·exact absurd ⟨h1,h2,h3⟩ (h u v hu hv (.inl hu))
 ·have hc:XE r ws=false:=by
   cases hb:XE r ws with
   | false=>rfl
   | true=>rw[canB_iff.1 hb s hs] at hp; cases hp
  rw[Qm,if_pos h0,XY,decide_eq_true h0,Int.toNat_natCast,hc];rfl
theorem JU {h:AHeap} {rm:Int} {vW:AV} {ws:List W} (hv:Rd h vW 4 (flr wc ws)):ACalls Go.Proofs.Tryz.prog 193 [.agg [.int .i64 rm,vW]] h (fun q h'=>∃ qp,q = .tup [qp,.int .i64 (Qm rm ws)]∧Keeps h h'∧qp.one=true∧(Qm rm ws=0→∃ n vn,AddrOf qp qp 0 0∧Flow ws n∧St h h' [⟨qp,0,[.int .i64 rm,vW,vn],true⟩,⟨vn,1,ints n,true⟩])):=by
 refine OI 80 [.tmp 2,.tmp 3] Go.Proofs.Tryz.func193 rfl (by decide) rfl rfl (Nat.le_of_ble_eq_true rfl) ?_;have hS:=St.refl h;have hvo:vW.one=true:=hv.one;show KA _ 80 _ _ [(0,.agg [.int .i64 rm,vW])] _;refine Ov ?_;refine O2 hS (by first|rfl|(simp[AV.one]; done)|(simp[AV.one]; assumption)|(simp[AV.one, *]; done)) ?_;intro p1 h' hp1 hS;refine Oa [1] ?_;refine KA.scope ?_;refine Ot ?_;refine Ov ?_;refine Ky hS (i:=0) rfl hp1 (by rfl) (by decide) ?_;refine Oi rfl (check_c (Rd.ext hS.keeps hv)) ?_;rintro _ h5 ⟨rfl,hK⟩;replace hS:St _ _ (_::_):=St.trans hS (St.ofK hK);refine Oa [1,4] ?_;refine Oa [1,4,18] ?_;refine O8 ?_ ?_
 ·intro c18;refine Oa [2,3] ?_;refine Oj ?_;have e0:Qm rm ws=Kx rm ws:=by rw[Qm,if_neg c18]
  rw[e0];exact⟨_,rfl,hS.keeps,rfl,fun h0=>absurd h0 c18⟩
 ·intro c18;obtain⟨r,rfl⟩:∃ r:Nat,rm=(r:Int):=⟨rm.toNat,by have:=(BOk.of c18).r2; omega⟩;have hB:=BOk.of c18;have hr6:=hB.r6;have hwl:=hB.len;refine Ox [1] ?_;refine Ov ?_;refine Ky hS (i:=0) rfl hp1 (by rfl) (by decide) ?_;refine KOps.buildA1 (z0:=.int .i64 0) (z1:=.nils) (z2:=.nils) (by kernel_rfl) (by rfl) (by kernel_rfl) (by kernel_rfl) (by first|rfl|assumption) (by first|rfl|assumption) ?_;refine O2 hS (by first|rfl|(simp[AV.one]; done)|(simp[AV.one]; assumption)|(simp[AV.one, *]; done)) ?_;intro p22 h' hp22 hS;refine Oa [1,5] ?_;refine Ot ?_;refine Ov ?_;refine Ob hp1 ?_;intro p23 hp23;refine Of hp23 (hS.rd 1 rfl) rfl ?_;refine QS KL (Rd.ext hS.keeps hv) ?_;refine Oa [5,24,25,26] ?_;refine Oy ?_;refine Kd (X:=Nat × AV) (fun x=>[(5,p22),(24,vW),(25,.int .i64 (ws.length:Int)),(26,.int .i64 (x.1:Int))]) (fun x h'=>x.1≤ws.length∧St h h' [⟨p22,0,[.int .i64 (r:Int),vW,x.2],true⟩,⟨p1,0,[.int .i64 (r:Int),vW],true⟩,⟨x.2,1,ints ((ws.map (·.l)).take x.1),true⟩]) (fun x=>ws.length - x.1) (0,.nils) ?_ ?_
  ·exact⟨Nat.zero_le _,St.addNil 1 true hS⟩
  rintro⟨i,vn⟩ h6 ⟨hi,hS⟩;dsimp only at hi hS⊢;refine Oc ?_;refine Oh ?_;refine Od ?_;refine Ot ?_;refine Om ?_ ?_
  ·intro c27;refine Ox [5,24,25,26] ?_;refine Ot ?_;refine Oy ?_;refine Ov ?_;refine Qa KL (Rd.ext hS.keeps hv) (j:=i) rfl (by first|omega|(simp; omega)) ?_;intro p28 hp28;refine Qb KL (by decide) hp28 (Rd.ext hS.keeps hv) (by first|omega|(simp; omega)) ?_;refine Ks hS ?_;intro p7 h' hp7 hS;refine Kv hS rfl (i:=0) rfl hp7 (by first|rfl|(simp[AV.one]; done)|(simp[AV.one]; assumption)|(simp[AV.one, *]; done)) (by rfl) (by rfl) (by decide) ?_;intro h' hS;simp only[List.set_cons_zero,List.set_cons_succ,Nat.zero_add] at hS;refine Oo [5,7,24,25,26] ?_;refine OS [8] mixed rfl (by kernel_rfl) ?_;refine Oc ?_;refine On hp22 ?_;refine Ob hp22 ?_;intro p33 hp33;refine Of hp33 (hS.rd 1 rfl) rfl ?_;refine Ob hp7 ?_;intro p35 hp35;refine Of hp35 (hS.rd 0 rfl) rfl ?_;refine OE hS rfl (by decide) rfl ?_;intro v37 h' hS;refine KOps.appendI hS (fun _=>rfl) (i:=3) rfl (by first|omega|(simp; omega)) ?_;intro r38 h' hr38 hS;refine On hp22 ?_;refine Ob hp22 ?_;intro p40 hp40;refine KI hS rfl (i:=1) rfl hp40 hr38 (by first|decide|simp) ?_;intro h' hS;simp only[List.set_cons_zero,List.set_cons_succ,Nat.zero_add] at hS;refine Oh ?_;refine Ol ?_;refine Od ?_;refine Oq [5,24,25,26] ?_;refine Oc ?_;refine Oh ?_;rw[mins_next (by omega)] at hS;exact lpN (i+1,r38) ⟨by dsimp only; omega,St.tail hS⟩ (by dsimp only; omega)
  ·intro c27;refine Kc ?_;refine OV ?_;refine O6 ?_;refine OZ ?_;refine Od ?_;refine Oq [5] ?_;refine Oc ?_;refine Oh ?_;refine Od ?_;refine Ot ?_;refine KA.label ?_;refine Od ?_;refine Oy ?_;refine Kd (X:=List Int × AV) (fun x=>[(5,p22),(8,.fn 214 [])]) (fun x h'=>Within ws x.1∧St h h' [⟨p22,0,[.int .i64 (r:Int),vW,x.2],true⟩,⟨x.2,1,ints x.1,true⟩,⟨p1,0,[.int .i64 (r:Int),vW],true⟩]) (fun x=>Zo ws x.1 r) (ws.map (·.l),vn) ?_ ?_
   ·refine⟨Wu hB,?_⟩;have e:(ws.map (·.l)).take i=ws.map (·.l):=List.take_of_length_le (by simp; omega);rw[e] at hS;exact St.pick [0,2,1] (by decide) rfl hS
   rintro⟨n,vn⟩ h6 ⟨hw,hS⟩;dsimp only at hw hS⊢;refine Oy ?_;refine Oc ?_;refine Oi rfl (kept_c hp22 (hS.rd 0 rfl) (Rd.ext hS.keeps hv) (hS.rd 1 rfl) hB hw.len (Xi hB hw)) ?_;rintro vk h6 hK;replace hS:St _ _ (_::_):=St.trans hS hK;refine Oa [5,8,9] ?_;refine Oc ?_;refine Oi rfl (anyNz_c (hS.rd 0 rfl) (by rw[Q8]; omega) (fun _ _=>nz90_c)) ?_;rintro _ h7 ⟨rfl,rfl⟩;refine Oa [5,8,9,46] ?_;refine Ki ?_ ?_
   ·intro c46;refine Oa [2,3] ?_;refine Oj ?_;have hfl:=keptL_flow hB hw (by simpa using c46);have e0:=agree_flow c18 hfl;rw[e0];exact⟨_,rfl,hS.keeps,St.one hS (k:=1) rfl,fun _=>⟨n,vn,hp22,hfl,St.pick [1,2] (by decide) rfl hS⟩⟩
   ·intro c46;refine Ox [5,8,9] ?_;refine Oc ?_;refine OT (hS.rd 0 rfl) ?_;refine Og ?_;refine Oh ?_;refine Od ?_;refine Oy ?_;refine Kd (X:=Nat) (fun i=>[(5,p22),(8,.fn 214 []),(9,vk),(48,vk),(49,.int .i64 ((K6 r ws n ws.length).length:Int)),(50,.int .i64 (i:Int))]) (fun i h'=>i≤r∧NoTo ws n r i 0∧St h h' [⟨vk,1,ints (K6 r ws n ws.length),true⟩,⟨p22,0,[.int .i64 (r:Int),vW,vn],true⟩,⟨vn,1,ints n,true⟩,⟨p1,0,[.int .i64 (r:Int),vW],true⟩]) (fun i=>r - i) 0 ?_ ?_
    ·exact⟨Nat.zero_le _,NoTo.zero _ _ _,hS⟩
    rintro i h8 ⟨hi,hno0,hS⟩;have hkl:=Q8 r ws n ws.length;refine Oc ?_;refine Oh ?_;refine Od ?_;refine Ot ?_;refine Om ?_ ?_
    ·intro c51;refine Ox [5,8,9,48,49,50] ?_;refine Ot ?_;refine Oy ?_;refine Oc ?_;refine Ou (hS.rd 0 rfl) (j:=i) rfl (by first|omega|(simp; omega)) ?_;intro p53 hp53;refine O9 hp53 (hS.rd 0 rfl) (by first|omega|(simp; omega)) ?_;refine Oa [5,8,9,10,11,48,49,50] ?_;refine Oc ?_;refine OT (hS.rd 0 rfl) ?_;refine Og ?_;refine Oh ?_;refine Od ?_;refine Oy ?_;refine Kd (X:=Nat) (fun j=>[(5,p22),(8,.fn 214 []),(9,vk),(48,vk),(49,.int .i64 ((K6 r ws n ws.length).length:Int)),(50,.int .i64 (i:Int)),(10,.int .i64 (i:Int)),(11,.int .i64 ((K6 r ws n ws.length).getD i 0)),(55,vk),(56,.int .i64 ((K6 r ws n ws.length).length:Int)),(57,.int .i64 (j:Int))]) (fun j h'=>j≤r∧NoTo ws n r i j∧St h h' [⟨vk,1,ints (K6 r ws n ws.length),true⟩,⟨p22,0,[.int .i64 (r:Int),vW,vn],true⟩,⟨vn,1,ints n,true⟩,⟨p1,0,[.int .i64 (r:Int),vW],true⟩]) (fun j=>r - j) 0 ?_ ?_
     ·exact⟨Nat.zero_le _,hno0,hS⟩
     rintro j h9 ⟨hj,hnoj,hS⟩;have hkl:=Q8 r ws n ws.length;refine Oc ?_;refine Oh ?_;refine Od ?_;refine Ot ?_;refine Om ?_ ?_
     ·intro c58;refine Ox [5,8,9,10,11,48,49,50,55,56,57] ?_;refine Ot ?_;refine Oy ?_;refine Oc ?_;refine Ou (hS.rd 0 rfl) (j:=j) rfl (by first|omega|(simp; omega)) ?_;intro p60 hp60;refine O9 hp60 (hS.rd 0 rfl) (by first|omega|(simp; omega)) ?_;refine Oa [5,8,9,10,11,12,13,48,49,50,55,56,57] ?_;refine Ot ?_;refine Ov ?_;have hgi:(K6 r ws n ws.length).getD i 0=kept ws n (i:Int):=Q7 (show i<r by omega);have hgj:(K6 r ws n ws.length).getD j 0=kept ws n (j:Int):=Q7 (show j<r by omega);refine Oc ?_;refine OD (dj:=64) rfl rfl false true rfl ?_ ?_
      ·intro g64;have g64:=of_decide_eq_false g64;refine Oa [5,8,9,10,11,12,48,49,50,55,56,57,65,66,67] ?_;refine Om ?_ ?_
       ·intro c67;refine Kc ?_;refine OV ?_;refine OZ ?_;refine Od ?_;refine Oq [5,8,9,10,11,48,49,50,55,56,57,65,66] ?_;refine Oc ?_;refine Oh ?_;exact lpN (j+1) ⟨by omega,hnoj.more (fun h0=>by have:=h0.2.1; omega),hS⟩ (by omega)
       ·intro c67;refine Ox [5,8,9,10,11,12,48,49,50,55,56,57,65,66] ?_;refine Oc ?_;refine Oi rfl (path_c hp22 (hS.rd 1 rfl) (Rd.ext hS.keeps hv) (hS.rd 2 rfl) hB hw.len (by omega) (by omega) (A:=fun _=>true) (fun _ _ _ _=>found1_c)) ?_;rintro q h8 ⟨b,G9,hq,hG,hno,hyes⟩;have hS9:=St.trans hS hG;clear hS;refine Oa [5,8,9,10,11,14,48,49,50,55,56,57,65,66] ?_;refine Oc ?_;refine KOps.neqNilm (p:=(3,4)) (by kernel_rfl) hq ?_;refine Oo [5,8,9,10,11,14,48,49,50,55,56,57,65,66,74] ?_;refine Ki ?_ ?_
        ·intro c74;have hb:b=false:=by simpa using c74
         subst hb;obtain⟨vs,E,p,rfl⟩:=hyes rfl;have hwp : 0<ws.length:=by
          rcases Nat.eq_zero_or_pos ws.length with h0|h0
          ·have h1:kept ws n (i:Int)=0:=by
            show KQ ws n (i:Int) ws.length=0;rw[h0]; rfl
           omega
          ·exact h0
         refine Oc ?_;refine Oi rfl (J0 hp22 (AV.mapNil_mp hq) hB hw hwp p (St.swap (A:=[_,_]) (B:=[_,_]) hS9)) ?_;rintro _ h10 hS;refine Oo [5,8,65,66] ?_;refine Kc ?_;refine blQ.exit rfl ?_;refine OV ?_;refine O6 ?_;refine blQ.exit rfl ?_;refine blQ.exit rfl ?_;refine OV ?_;refine O6 ?_;refine blQ.exit rfl ?_;refine OV ?_;refine OZ ?_;have hd:=UQ (p.kept hw.len) (by omega) (by omega) (by omega) (by omega) r;rw[if_pos (by omega),if_pos (by omega)] at hd;exact lpN (K7 E n,vn) ⟨p.within hw,St.mid (A:=[_,_]) (B:=[_]) hS⟩ (by dsimp only; omega)
        ·intro c74;refine Ow ?_;refine Ol ?_;refine Od ?_;refine Oq [5,8,9,10,11,48,49,50,55,56,57,65,66] ?_;refine Oc ?_;refine Oh ?_;exact lpN (j+1) ⟨by omega,hnoj.more (fun h0=>hno (by simpa using c74) h0.2.2),St.drop hS9⟩ (by omega)
      ·intro g64;have g64:=of_decide_eq_true g64;refine Oa [5,8,9,10,11,12,48,49,50,55,56,57,65,66,67] ?_;refine Kz ?_;refine Kc ?_;refine OV ?_;refine OZ ?_;refine Od ?_;refine Oq [5,8,9,10,11,48,49,50,55,56,57,65,66] ?_;refine Oc ?_;refine Oh ?_;exact lpN (j+1) ⟨by omega,hnoj.more (fun h0=>by have:=h0.1; omega),hS⟩ (by omega)
     ·intro c58;refine Kc ?_;refine OV ?_;refine O6 ?_;refine OZ ?_;refine Ol ?_;refine Od ?_;refine Oq [5,8,9,48,49,50] ?_;refine Oc ?_;refine Oh ?_;rw[show j=r by omega] at hnoj;exact lpN (i+1) ⟨by omega,hnoj.row,hS⟩ (by omega)
    ·intro c51;refine Kc ?_;refine OV ?_;refine O6 ?_;refine OZ ?_;refine Od ?_;refine Oq [] ?_;refine Oc ?_;refine Oh ?_;refine Od ?_;refine Oj ?_;have hir:i=r:=by omega
     subst hir;have e0:=NoTo.lost c18 hw (keptL_dev (by simpa using c46)) hno0;rw[e0];exact⟨.nilp,rfl,hS.keeps,rfl,fun h0=>absurd h0 (by decide)⟩
end Go.Am
namespace Go.Am
theorem lo_exists {ws:List W} {i:Nat} (h:∃ n,Flow ws n) (hi:i<ws.length):∃ v,IsLo ws i v:=by
 obtain⟨m,hm,hle⟩:=Jt (P:=fun n=>Flow ws n) (fun n=>(n.getD i 0 - (ws.getD i default).l).toNat) h;refine⟨m.getD i 0,⟨m,hm,rfl⟩,fun n hn=>?_⟩;have h1:=hle n hn;have h2:=hm.lo i hi;have h3:=hn.lo i hi;omega
theorem hi_exists {ws:List W} {i:Nat} (h:∃ n,Flow ws n) (hi:i<ws.length):∃ v,IsHi ws i v:=by
 obtain⟨m,hm,hle⟩:=Jt (P:=fun n=>Flow ws n) (fun n=>((ws.getD i default).m - n.getD i 0).toNat) h;refine⟨m.getD i 0,⟨m,hm,rfl⟩,fun n hn=>?_⟩;have h1:=hle n hn;have h2:=hm.hi i hi;have h3:=hn.hi i hi;omega
open Classical in
noncomputable def Vq (ws:List W) (i:Nat):Int:=if h:∃ v,IsLo ws i v then Classical.choose h else 0
open Classical in
noncomputable def Vn (ws:List W) (i:Nat):Int:=if h:∃ v,IsHi ws i v then Classical.choose h else 0
theorem loOf_is {ws:List W} {i:Nat} (h:∃ n,Flow ws n) (hi:i<ws.length):IsLo ws i (Vq ws i):=by
 have h2:=lo_exists h hi;unfold Vq;rw[dif_pos h2];exact Classical.choose_spec h2
theorem hiOf_is {ws:List W} {i:Nat} (h:∃ n,Flow ws n) (hi:i<ws.length):IsHi ws i (Vn ws i):=by
 have h2:=hi_exists h hi;unfold Vn;rw[dif_pos h2];exact Classical.choose_spec h2
theorem Low.isLo {ws:List W} {i:Nat} {n:List Int} (hf:Flow ws n) (h:Low ws i (fun _=>true) n):IsLo ws i (n.getD i 0):=⟨⟨n,hf,rfl⟩,fun m hm=>h m hm (fun _ _ hk=>by cases hk)⟩
theorem High.isHi {ws:List W} {i:Nat} {n:List Int} (hf:Flow ws n) (h:High ws i (fun _=>true) n):IsHi ws i (n.getD i 0):=⟨⟨n,hf,rfl⟩,fun m hm=>h m hm (fun _ _ hk=>by cases hk)⟩
theorem waysE_lost (r:Int) (ws:List W):∀ k,Qz r ws k≠12:=by
 intro k
 induction k with
 | zero=>simp[Qz]
 | succ k ih=>
  rw[Qz];split
  ·unfold Kr;split
   ·decide
   ·split
    ·decide
    ·split <;> decide
  ·exact ih
theorem chkB_lost (r:Int) (ws:List W):Kx r ws≠12:=by
 unfold Kx;split
 ·decide
 ·split
  ·decide
  ·exact waysE_lost r ws _
theorem J4 (rm:Int) (ws:List W):(Qm rm ws=12→XY rm ws=false∧Kx rm ws=0)∧(Qm rm ws≠12→XY rm ws=decide (Qm rm ws=0)∧Kx rm ws=Qm rm ws):=by
 have h1:=chkB_lost rm ws;unfold Qm;by_cases h:Kx rm ws=0
 ·rw[if_pos h]
  cases hc:XY rm ws with
  | true=>exact⟨fun h2=>absurd h2 (by decide),fun _=>⟨rfl,h⟩⟩
  | false=>exact⟨fun _=>⟨rfl,h⟩,fun h2=>absurd rfl h2⟩
 ·rw[if_neg h];refine⟨fun h2=>absurd h2 h1,fun _=>⟨?_,rfl⟩⟩;rw[XY,decide_eq_false h]; rfl
def Za (rm:Int) (ws:List W) (i:Int):Int:=if Kx rm ws=0 then (if 0≤i∧i≤(ws.length:Int) - 1 then Qm rm ws else 2) else Kx rm ws
theorem Jk {rm:Int} {ws:List W} {i:Int} (h:Za rm ws i=0):Qm rm ws=0∧0≤i∧i<ws.length:=by
 unfold Za at h;by_cases h1:Kx rm ws=0
 ·rw[if_pos h1] at h;by_cases h2 : 0≤i∧i≤(ws.length:Int) - 1
  ·rw[if_pos h2] at h; exact⟨h,by omega,by omega⟩
  ·rw[if_neg h2] at h; cases h
 ·rw[if_neg h1] at h; exact absurd h h1
theorem span_c {h0 h:AHeap} {r:Nat} {i:Nat} {pf vW vn:AV} {ws:List W} {n:List Int} {tn:Bool} {G:List Obj} (hpf:AddrOf pf pf 0 0) (hv:Rd h0 vW 4 (flr wc ws)) (hB:BOk (r:Int) ws) (hfl:Flow ws n) (hi:i<ws.length) (hS:St h0 h (⟨pf,0,[.int .i64 (r:Int),vW,vn],true⟩::⟨vn,1,ints n,tn⟩::G)):ACalls Go.Proofs.Tryz.prog 161 [pf,.int .i64 (i:Int)] h (fun q h'=>q = .tup [.int .i64 (Vq ws i),.int .i64 (Vn ws i)]∧∃ n',St h0 h' (⟨pf,0,[.int .i64 (r:Int),vW,vn],true⟩::⟨vn,1,ints n',tn⟩::G)∧Flow ws n'):=by
 refine OI 27 [.tmp 4,.tmp 5] Go.Proofs.Tryz.func161 rfl (by decide) rfl rfl (Nat.le_of_ble_eq_true rfl) ?_;show KA _ 27 _ _ [(0,pf),(1,.int .i64 (i:Int))] _;refine Oa [0,1] ?_;refine Oc ?_;refine Oi rfl (lower_c (i:=i) (A:=fun _=>true) hpf hv hB hfl hi (fun _ _ _ _ _=>span1_c) hS) ?_;rintro _ h4 ⟨c2,hS4,hf2,hn2,hl2⟩;clear hS;have hS:=hS4;clear hS4;have hcl:=hf2.len;have e1:=(hl2.isLo hf2).uniq (loOf_is ⟨_,hf2⟩ hi);refine Oo [0,1] ?_;refine Oc ?_;refine On hpf ?_;refine Ob hpf ?_;intro p11 hp11;refine Of hp11 (hS.rd 0 rfl) rfl ?_;refine Og ?_;refine Ou (hS.rd 1 rfl) (j:=i) (by first|omega|(simp; omega)) (by first|omega|(simp; omega)) ?_;intro p14 hp14;refine O9 hp14 (hS.rd 1 rfl) (by first|omega|(simp; omega)) ?_;refine Oa [0,1,4] ?_;refine Oc ?_;refine Oi rfl (raise_c (i:=i) hpf hv hB hf2 hi hS) ?_;rintro _ h5 ⟨c3,hS5,hf3,hn3,hl3⟩;clear hS;have hS:=hS5;clear hS5;have hcl3:=hf3.len;have e2:=(hl3.isHi hf3).uniq (hiOf_is ⟨_,hf3⟩ hi);refine Oo [0,1,4] ?_;refine Ot ?_;refine OS [] mixed rfl (by kernel_rfl) ?_;refine Oc ?_;refine On hpf ?_;refine Ob hpf ?_;intro p22 hp22;refine Of hp22 (hS.rd 0 rfl) rfl ?_;refine Og ?_;refine Ou (hS.rd 1 rfl) (j:=i) (by first|omega|(simp; omega)) (by first|omega|(simp; omega)) ?_;intro p25 hp25;refine O9 hp25 (hS.rd 1 rfl) (by first|omega|(simp; omega)) ?_;refine Oa [4,5] ?_;refine Oj ?_;exact⟨by rw[←e1,←e2],c3,hS,hf3⟩
theorem stCan_c {h:AHeap} {rm:Int} {vW:AV} {ws:List W} (hv:Rd h vW 4 (flr wc ws)):ACalls Go.Proofs.Tryz.prog 262 [.agg [.int .i64 rm,vW]] h (fun q h'=>q = .tup [.bool (XY rm ws),.int .i64 (Kx rm ws)]∧Keeps h h'):=by
 refine OI 16 [.tmp 2,.tmp 3] Go.Proofs.Tryz.func262 rfl (by decide) rfl rfl (Nat.le_of_ble_eq_true rfl) ?_;have hS:=St.refl h;have hvo:vW.one=true:=hv.one;show KA _ 16 _ _ [(0,.agg [.int .i64 rm,vW])] _;refine Ov ?_;refine O2 hS (by first|rfl|(simp[AV.one]; done)|(simp[AV.one]; assumption)|(simp[AV.one, *]; done)) ?_;intro p1 h' hp1 hS;refine Oa [1] ?_;refine Ov ?_;refine Ky hS (i:=0) rfl hp1 (by rfl) (by decide) ?_;refine Oi rfl (JU (Rd.ext hS.keeps hv)) ?_;rintro _ h5 ⟨qp,rfl,hK,hqp,hyes⟩;refine Oa [5] ?_;refine Oa [5,12] ?_;refine Om ?_ ?_
 ·intro c12;refine Oa [2,3] ?_;refine Oj ?_;have h1:=(J4 rm ws).1 c12;exact⟨by rw[h1.1,h1.2],hS.keeps.trans hK⟩
 ·intro c12;refine Ox [5] ?_;refine Oa [2,3] ?_;refine Oj ?_;have h1:=(J4 rm ws).2 c12;exact⟨by rw[h1.1,h1.2],hS.keeps.trans hK⟩
end Go.Am
namespace Go.Am
theorem asked_c {h:AHeap} {rm i:Int} {vW:AV} {ws:List W} (hv:Rd h vW 4 (flr wc ws)):ACalls Go.Proofs.Tryz.prog 160 [.agg [.int .i64 rm,vW],.int .i64 i] h (fun q h'=>∃ qp,q = .tup [qp,.int .i64 (Za rm ws i)]∧Keeps h h'∧qp.one=true∧(Za rm ws i=0→∃ n vn,AddrOf qp qp 0 0∧Flow ws n∧St h h' [⟨qp,0,[.int .i64 rm,vW,vn],true⟩,⟨vn,1,ints n,true⟩])):=by
 refine OI 24 [.tmp 4,.tmp 5] Go.Proofs.Tryz.func160 rfl (by decide) rfl rfl (Nat.le_of_ble_eq_true rfl) ?_;have hS:=St.refl h;have hvo:vW.one=true:=hv.one;show KA _ 24 _ _ [(0,.agg [.int .i64 rm,vW]),(1,.int .i64 i)] _;refine Ov ?_;refine O2 hS (by first|rfl|(simp[AV.one]; done)|(simp[AV.one]; assumption)|(simp[AV.one, *]; done)) ?_;intro p2 h' hp2 hS;refine Oa [1,2] ?_;refine Ot ?_;refine Ov ?_;refine Ky hS (i:=0) rfl hp2 (by rfl) (by decide) ?_;refine Oi rfl (check_c (Rd.ext hS.keeps hv)) ?_;rintro _ h5 ⟨rfl,hK⟩;replace hS:St _ _ (_::_):=St.trans hS (St.ofK hK);refine Oa [1,2,6] ?_;refine Oc ?_;refine OD (dj:=11) rfl rfl true false rfl ?_ ?_
 ·intro g11;have g11:=of_decide_eq_true g11;have hwl:=(BOk.of g11).len;refine Oc ?_;refine Ob hp2 ?_;intro p13 hp13;refine Oe (dj:=11) rfl rfl ?_;refine Of hp13 (hS.rd 0 rfl) rfl ?_;refine Oe (dj:=11) rfl rfl ?_;refine QS KL (Rd.ext hS.keeps hv) ?_;refine Oc ?_;refine Oi rfl (J9) ?_;rintro _ _ ⟨rfl,rfl⟩;refine Oa [2,19] ?_;refine O8 ?_ ?_
  ·intro c19;refine Oa [4,5] ?_;refine Oj ?_;have e0:Za rm ws i=2:=by rw[Za,if_pos g11,if_neg (by omega)]
   rw[e0];exact⟨_,rfl,hS.keeps,rfl,fun h0=>absurd h0 (by decide)⟩
  ·intro c19;refine Ox [2] ?_;refine Ov ?_;refine Ky hS (i:=0) rfl hp2 (by rfl) (by decide) ?_;refine Oi rfl (JU (Rd.ext hS.keeps hv)) ?_;rintro _ h6 ⟨qp,rfl,hK2,hqp,hyes⟩;refine Oa [4,5] ?_;refine Oj ?_;have e0:Za rm ws i=Qm rm ws:=by rw[Za,if_pos g11,if_pos (by omega)]
   rw[e0];refine⟨_,rfl,hS.keeps.trans hK2,hqp,fun h0=>?_⟩;obtain⟨n,vn,hpf,hf,hSF⟩:=hyes h0;exact⟨n,vn,hpf,hf,St.pick [0,1] (by decide) rfl (St.trans hS hSF:St _ _ (_::_::_))⟩
 ·intro g11;have g11:=of_decide_eq_false g11;refine Oa [2,19] ?_;refine OH ?_;refine Ox [2] ?_;refine Ov ?_;refine Ky hS (i:=0) rfl hp2 (by rfl) (by decide) ?_;refine Oi rfl (JU (Rd.ext hS.keeps hv)) ?_;rintro _ h6 ⟨qp,rfl,hK2,hqp,hyes⟩;refine Oa [4,5] ?_;refine Oj ?_;have e0:Za rm ws i=Qm rm ws:=by rw[Za,if_neg g11,Qm,if_neg g11]
  rw[e0];refine⟨_,rfl,hS.keeps.trans hK2,hqp,fun h0=>?_⟩;obtain⟨n,vn,hpf,hf,hSF⟩:=hyes h0;exact⟨n,vn,hpf,hf,St.pick [0,1] (by decide) rfl (St.trans hS hSF:St _ _ (_::_::_))⟩
theorem Jh {h:AHeap} {rm i:Int} {vW:AV} {ws:List W} (hv:Rd h vW 4 (flr wc ws)):ACalls Go.Proofs.Tryz.prog 121 [.agg [.int .i64 rm,vW],.int .i64 i] h (fun q h'=>q = .tup [.int .i64 (if Za rm ws i=0 then Vq ws i.toNat else 0),.int .i64 (if Za rm ws i=0 then Vn ws i.toNat else 0),.int .i64 (Za rm ws i)]∧Keeps h h'):=by
  refine OI 25 [.tmp 4,.tmp 5,.tmp 6] Go.Proofs.Tryz.func121 rfl (by decide) rfl rfl (Nat.le_of_ble_eq_true rfl) ?_;have hS:=St.refl h;have hvo:vW.one=true:=hv.one;show KA _ 25 _ _ [(0,.agg [.int .i64 rm,vW]),(1,.int .i64 i)] _;refine Ov ?_;refine O2 hS (by first|rfl|(simp[AV.one]; done)|(simp[AV.one]; assumption)|(simp[AV.one, *]; done)) ?_;intro p2 h' hp2 hS;refine Oa [1,2] ?_;refine Ov ?_;refine Ky hS (i:=0) rfl hp2 (by rfl) (by decide) ?_;refine Og ?_;refine Oi rfl (asked_c (Rd.ext hS.keeps hv)) ?_;rintro _ h5 ⟨qp,rfl,hK,hqp,hyes⟩;refine Oa [1,6,7] ?_;refine Oa [1,6,7,15] ?_;refine O8 ?_ ?_
  · intro c15;refine Oa [4,5,6] ?_;refine Oj ?_;rw[if_neg c15,if_neg c15];exact⟨rfl,hS.keeps.trans hK⟩
  · intro c15;obtain⟨he,hi0,hi1⟩:=Jk c15;have hB:=(Xk he).1;obtain⟨r,rfl⟩:∃ r:Nat,rm=(r:Int):=⟨rm.toNat,by have:=hB.r2; omega⟩;obtain⟨j,rfl⟩:∃ j:Nat,i=(j:Int):=⟨i.toNat,by omega⟩;obtain⟨n,vn,hpf,hf,hSF⟩:=hyes c15;replace hS:St _ _ (_::_::_):=St.trans hS hSF;refine Ox [1,7] ?_;refine Oc ?_;refine Oi rfl (span_c (r:=r) (i:=j) hpf hv hB hf (by omega) hS) ?_;rintro _ h6 ⟨rfl,c2,hS6,hf6⟩;refine Oa [4,5] ?_;refine Oa [4,5,6] ?_;refine Oj ?_;rw[if_pos c15,if_pos c15,c15];exact⟨rfl,hS6.keeps⟩
end Go.Am
namespace Go.Am
def ZT (ws : List W) (s : Nat) (w : Int) : Nat → Int
  | 0=>0
  | i+1=>ZT ws s w i+if (i:Int)≠w∧lvs (ws.getD i default) s=true then (ws.getD i default).l else 0
def ZU (ws : List W) (s : Nat) (w : Int) : Nat → Int
  | 0=>0
  | i+1=>ZU ws s w i+if (i:Int)≠w∧ens (ws.getD i default) s=true then (ws.getD i default).m else 0
theorem JJ {rm:Int} {ws:List W} (h:BOk rm ws) (s:Nat) (w:Int):∀ k,k≤ws.length→(0≤ZT ws s w k∧ZT ws s w k≤99*(k:Int))∧0≤ZU ws s w k∧ZU ws s w k≤99*(k:Int):=by
 intro k
 induction k with
 | zero=>intro _; simp[ZT,ZU]
 | succ k ih=>
  intro hk;have h1:=ih (by omega);have hw:=h.way k (by omega);have:=hw.l0; have:=hw.m1; have:=hw.lm;rw[ZT,ZU];constructor <;> split <;> omega
def Yh (ws:List W) (s i:Nat):Int:=if lvs (ws.getD i default) s then ZU ws s i ws.length - ZT ws s i ws.length else ZT ws s i ws.length - ZU ws s i ws.length
theorem lvs_ens (w:W) (s:Nat):(inS s w.f == inS s w.t)=(!lvs w s && !ens w s):=by
 unfold lvs ens
 cases inS s w.f <;> cases inS s w.t <;> rfl
def XD (a b:List Int):Bool:=decide (a.length<b.length) || (decide (a.length=b.length) && (List.range a.length).any fun i=>((List.range i).all fun j=>decide (a.getD j 0=b.getD j 0)) && decide (a.getD i 0<b.getD i 0))
theorem UG {a b:List Int} (h:a.length≠b.length):XD a b=decide (a.length<b.length):=by
 rw[XD,decide_eq_false h,Bool.false_and,Bool.or_false]
theorem befB_at {a b:List Int} {i:Nat} (h:a.length=b.length) (hi:i<a.length) (hp:∀ j,j<i→a.getD j 0=b.getD j 0) (hne:a.getD i 0≠b.getD i 0):XD a b=decide (a.getD i 0<b.getD i 0):=by
 rw[XD,decide_eq_false (by omega),Bool.false_or,decide_eq_true h,Bool.true_and,Bool.eq_iff_iff,decide_eq_true_iff,List.any_eq_true];constructor
 ·rintro⟨k,hk,hb⟩;rw[Bool.and_eq_true,decide_eq_true_iff,List.all_eq_true] at hb;obtain⟨h1,h2⟩:=hb;rcases Nat.lt_trichotomy k i with h3|rfl|h3
  ·have:=hp k h3; omega
  ·exact h2
  ·exact absurd (of_decide_eq_true (h1 i (List.mem_range.2 h3))) hne
 ·intro hlt;refine⟨i,List.mem_range.2 hi,?_⟩;rw[Bool.and_eq_true,decide_eq_true_iff,List.all_eq_true];exact⟨fun j hj=>decide_eq_true (hp j (List.mem_range.1 hj)),hlt⟩
theorem befB_same {a b:List Int} (h:a.length=b.length) (hp:∀ j,j<a.length→a.getD j 0=b.getD j 0):XD a b=false:=by
 rw[XD,decide_eq_false (by omega),Bool.false_or,decide_eq_true h,Bool.true_and,List.any_eq_false];intro i hi;rw[Bool.and_eq_true,decide_eq_true_iff];rintro⟨_,h2⟩;have:=hp i (List.mem_range.1 hi);omega
def XR (o:Option Nat) (k:Nat):Bool:=match o with|none=>true|some b=>XD (Kt k 6) (Kt b 6)
def QI (p : Nat → Bool) : Nat → Option Nat
  | 0=>none
  | k+1=>if (p k && XR (QI p k) k)=true then some k else QI p k
def fewL (p:Nat→Bool) (k:Nat):List Int:=match QI p k with|none=>[] | some b=>Kt b 6
end Go.Am
