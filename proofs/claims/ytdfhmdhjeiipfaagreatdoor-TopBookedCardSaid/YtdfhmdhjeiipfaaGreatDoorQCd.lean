/-
  Tops: turned from layer 14: Bc.
  Conditions: none.
-/
import Derived.Test.YtdfhmdhjeiipfaaGreatDoorQCc
open List renaming mem_reverse → dO, mem_cons → dU, dropWhile_cons → dY
set_option maxRecDepth 99999
set_option maxHeartbeats 4000000
namespace Go.Am
open Go.RowKit
theorem Ev.of_belowQ {P : Program} {f : FuncId} {args : List AV} {r : AV} {h : AHeap} (hok : Okf P f)
    (hc:∀ (φ:Emb) (w:World) (cs:List Value),HRel φ h w→VRels φ args cs→Calls P f cs.toArray w fun e w'=>∃ v,e = .returned v∧VRel φ r v∧Below w.heap.size w w'):Ev P f args h r h:=by
 refine⟨hok,HGrow.refl h,?_⟩;intro φ w cs _ rr ha;refine(hc φ w cs rr ha).mono ?_;rintro e w' ⟨v,rfl,hv,bel⟩;have hk:∀ k,k<w.heap.size→w'.heap[k]? = w.heap[k]?:=fun k hk=>bel.block k hk
 refine⟨v,φ,rfl,⟨Emb.le_refl φ,fun b h1 h2=>by omega,fun b p h1 h2=>an,fun b k i z h1 h2=>an,fun k hk' _=>hk k hk',bel.os,bel.tape,bel.output,bel.size⟩,?_,hv⟩;refine⟨rr.glob,fun b k i z hb=>Nat.lt_of_lt_of_le (rr.lt b k i z hb) bel.size,?_,?_,rr.one,rr.sep,rr.map,rr.ext⟩;intro b k i z B hb hB hv;exact(rr.blk b k i z B hb hB hv).world (hk k (rr.lt b k i z hb));intro b k i z F p cs hb hB;obtain⟨c,e,h2,h3⟩:=rr.arr b k i z F p cs hb hB;exact⟨c,e,h2.old (hk k (rr.lt b k i z hb)),h3⟩
def VarAt (h:AHeap) (g:Nat) (cs:List AV):Prop:=h.globs.contains g=true∧h.get g=some (.cells none 1 cs)
theorem VarAt.ext {h h':AHeap} {g:Nat} {cs:List AV} (z:VarAt h g cs) (k:Keeps h h'):VarAt h' g cs:=⟨by rw[k.globs]; exact z.1,k.get_some z.2⟩
theorem VarAt.rel {φ:Emb} {h:AHeap} {w:World} {g:Nat} {cs:List AV} (z:VarAt h g cs) (r:HRel φ h w):∃ c e f,w.heap[g]? = some (.cells c e f)∧c.size=cs.length∧∀ (j:Nat) (x:AV),cs[j]? = some x→∃ v,c[j]? = some v∧VRel φ x v:=by
 obtain⟨u,hu⟩:=r.glob g (by simpa using z.1);have hb:=r.blk g g 0 u _ hu z.2 (by unfold AHeap.valid; rw[z.2]);obtain⟨_,c,e,f,h1,h2⟩:=hb.2 rfl;refine⟨c,e,f,h1,h2,fun j x hx=>?_⟩;obtain⟨v,h3,h4⟩:=hb.1 j x hx;refine⟨v,?_,h4⟩;rw[Nat.zero_add] at h3;simpa [World.cell?,h1] using h3
theorem idx1 (c:UInt8):∀ l:Str,Lib.index l [c]=if c∈l then (O6 l c:Int) else -1:=by
 intro l
 induction l with
 | nil=>rfl
 | cons a l ih=>
  unfold Lib.index;have hp : [c].isPrefixOf (a::l)=(c == a):=by simp[List.isPrefixOf]
  rw[hp,ih];by_cases h:c=a;subst h; simp[O6];have hb:(c == a)=false:=by simpa using h
  rw[hb];by_cases hm:c∈l;rw[if_neg aE,if_pos hm,if_pos (List.mem_cons_of_mem _ hm)];rw[if_neg (by rw[beq_iff_eq]; omega)];simp only[O6,if_neg h];omega;rw[if_neg aE,if_neg hm,if_neg (fun hc=>(dU.1 hc).elim h hm)];rfl
theorem splitC_no (c:UInt8):∀ l:Str,c ∉ l→Kg c l = [l]:=by
 intro l
 induction l with
 | nil=>intro _; rfl
 | cons a l ih=>
  intro h;simp only[dU,not_or] at h;simp only[Kg,if_neg (fun e=>h.1 (Eq.symm e)),ih h.2]
theorem splitC_ne (c:UInt8):∀ l:Str,Kg c l≠[]:=by
 intro l
 cases l with
 | nil=>simp[Kg]
 | cons a l=>
  simp only[Kg];split;simp;split <;> simp
theorem splitC_hit (c:UInt8):∀ l:Str,c∈l→Kg c l=l.take (O6 l c)::Kg c (l.drop (O6 l c+1)):=by
 intro l
 induction l with
 | nil=>intro h; cases h
 | cons a l ih=>
  intro h;by_cases he:c=a;subst he;simp[Kg,O6];have hm:=(dU.1 h).resolve_left he;simp only[Kg,if_neg (fun e=>he (Eq.symm e)),O6,if_neg he,ih hm,List.take_succ_cons,List.drop_succ_cons]
theorem Jt (c:UInt8):∀ (k:Nat) (l:Str),Lib.countB (wdQ l) (wdQ [c])=k→Lib.splitB (wdQ [c]) 0 k (wdQ l)=(Kg c l).map wdQ:=by
 intro k
 induction k with
 | zero=>
  intro l h;by_cases hm:c∈l;exfalso;have hi:Lib.indexB (wdQ l) (wdQ [c])=(O6 l c:Int):=by
   show Lib.index l [c]=_;rw[idx1,if_pos hm]
  have:=Lib.countB_hit (wdQ l) (wdQ [c]) (O6 l c) ai hi;omega;rw[splitC_no c l hm];rfl
 | succ k ih=>
  intro l h;by_cases hm:c∈l;have hi:Lib.indexB (wdQ l) (wdQ [c])=(O6 l c:Int):=by
   show Lib.index l [c]=_;rw[idx1,if_pos hm]
  have h2:=Lib.countB_hit (wdQ l) (wdQ [c]) (O6 l c) ai hi;have e1:(wdQ l).extract (O6 l c+(wdQ [c]).size) (wdQ l).size=wdQ (l.drop (O6 l c+1)):=by
   rw[Rc,wd_size,wd_size,List.take_length];rfl
  have e2:(wdQ l).extract 0 (O6 l c+0)=wdQ (l.take (O6 l c)):=by
   rw[Rc]; rfl
  rw[e1] at h2;rw[Lib.splitB_hit _ _ _ _ _ hi,e1,e2,splitC_hit c l hm,List.map_cons,ih _ aA];exfalso;have hi:Lib.indexB (wdQ l) (wdQ [c]) = -1:=by
   show Lib.index l [c]=_;rw[idx1,if_neg hm]
  have:=Lib.countB_miss (wdQ l) (wdQ [c]) hi;omega
def Mx (h:AHeap):Prop:=∃ m:Int,VarAt h 4 [.int .i64 m]
theorem Mx.ext {h h':AHeap} (z:Mx h) (k:Keeps h h'):Mx h':=let⟨m,hm⟩:=z; ⟨m,hm.ext k⟩
theorem split_c {h:AHeap} {l:Str} {c:UInt8} (hM:Mx h) (hl:l.length≤1000000):ACalls Go.Proofs.Tryz.prog 134 [.str (wdQ l),.str (wdQ [c])] h (fun q h'=>VV q∧St h h' [⟨q,1,wcsQ (Kg c l),true⟩]):=by
 have hlen:(Kg c l).length=Lib.countB (wdQ l) (wdQ [c])+1:=by
  have:=Lib.splitB_all (wdQ [c]) ai 0 _ (wdQ l) rfl;rw[Jt c _ l rfl,List.length_map] at this;exact this
 have hle:=Lib.countB_le (wdQ [c]) ai _ (wdQ l) (Nat.le_refl _);rw[wd_size] at hle;refine⟨.slc h.next 0 (Kg c l).length 1 true,h.alloc (wcsQ (Kg c l)),⟨⟨_,Go.Proofs.Tryz.func134,by decide,rfl⟩,HGrow.alloc _ _,?_⟩,⟨_,_,_,_,_,rfl⟩,St.alloc (St.refl h) (.inl ⟨_,_,rfl,by simp,by decide⟩)⟩;intro φ w cs hfr rr ha;obtain⟨a,b,rfl⟩:∃ a b,cs = [a,b]:=by
  match cs,ha.1 with
  | [a,b],_=>exact⟨a,b,rfl⟩
 have h1:=ha.2 0 _ _ rfl rfl;have h2:=ha.2 1 _ _ rfl rfl
 cases h1; cases h2
 obtain⟨m,hm⟩:=hM;obtain⟨C,e,f,g1,g2,g3⟩:=hm.rel rr;obtain⟨v,g4,g5⟩:=g3 0 _ rfl;cases g5;refine(Go.Proofs.Tryz.strings_Split (wdQ l) (wdQ [c]) m w (by rw[wd_size]; omega) (by simp[World.cell?,g1,g4]) ai).mono ?_;rintro e w' ⟨rfl,rfl⟩;have hφ : φ h.next=none:=hfr h.next (Nat.le_refl _) (by rw[AHeap.next_alloc]; omega);have hca:CellsAt φ (wcsQ (Kg c l)) ((Lib.splitB (wdQ [c]) 0 (Lib.countB (wdQ l) (wdQ [c])) (wdQ l)).map Value.string).toArray 0:=by
  intro j x hx;rw[List.getElem?_map,Option.map_eq_some_iff] at hx;obtain⟨y,hy,rfl⟩:=hx;refine⟨.string (wdQ y),?_,.str _⟩;rw[Jt c _ l rfl];simp[hy]
 obtain⟨r',tr⟩:=rr.alloc hφ (wcsQ (Kg c l)) _ 9 (by rw[Jt c _ l rfl]; simp) hca;refine⟨_,_,rfl,tr,r',?_⟩;rw[←hlen];refine .slc _ _ _ _ _ _ _ aA (by unfold maxLen; omega) (fun _=>by omega) (.inr ⟨_,0,_,Emb.upd_same _ _ _,by simp,?_⟩);rw[Jt c _ l rfl];simp
def abc:Str:=[97,98,99,100,101,102,103,104,105,106,107,108,109,110,111,112,113,114,115,116,117,118,119,120,121,122]
theorem trim_c {h:AHeap} {l:Str} (hl:l.length≤1000000):ACalls Go.Proofs.Tryz.prog 176 [.str (wdQ l),.str (wdQ abc)] h (fun q h'=>q = .str (wdQ (Lib.trimS l abc))∧h=h'):=by
 refine⟨_,_,Ev.of_belowQ ⟨_,Go.Proofs.Tryz.func176,by decide,rfl⟩ ?_,rfl,rfl⟩;intro φ w cs _ ha;obtain⟨a,b,rfl⟩:∃ a b,cs = [a,b]:=by
  match cs,ha.1 with
  | [a,b],_=>exact⟨a,b,rfl⟩
 have h1:=ha.2 0 _ _ rfl rfl;have h2:=ha.2 1 _ _ rfl rfl
 cases h1; cases h2
 refine(Go.Proofs.Tryz.strings_Trim_laid (wdQ l) (wdQ abc) w (by rw[wd_size]; omega) (by rw[wd_size]; decide) (Go.Proofs.ascii_of_all aE)).mono ?_;rintro e w' ⟨rfl,bel⟩;exact⟨_,rfl,.str _,bel⟩
theorem Tl {α:Type} (p : α→Bool):∀ l:List α,l.dropWhile p = []↔∀ x∈l,p x=true:=by
 intro l
 induction l with
 | nil=>simp
 | cons a l ih=>
  rw[dY];by_cases h:p a=true;rw[if_pos h,ih]; simp[h];rw[if_neg h]; simp[h]
theorem trim_nil (l cs:Str):Lib.trimS l cs = []↔∀ c∈l,c∈cs:=by
 unfold Lib.trimS Lib.trimLeftS Lib.trimRightS;rw[Tl];constructor
 ·intro h c hc;have key:∀ m:Str,(∀ x∈(m.dropWhile (cs.contains ·)).reverse,cs.contains x=true)→∀ x∈m,cs.contains x=true:=by
   intro m
   induction m with
   | nil=>intro _ x hx; cases hx
   | cons a m ih=>
    intro hm x hx;rw[dY] at hm;by_cases ha:cs.contains a=true;rw[if_pos ha] at hm;rcases dU.1 hx with rfl|hx
    exact ha;exact ih hm x hx;rw[if_neg ha] at hm;exact hm x (dO.2 hx)
  have:=key l.reverse h c (dO.2 hc);simpa using this
 intro h x hx;have:=List.dropWhile_sublist (p:=(cs.contains ·)) (l:=l.reverse);have hm:=this.subset (dO.1 hx);have:=h x (dO.1 hm);simpa using this
def Pow (h:AHeap):Prop:=VarAt h 1 (Lib.pow10Tab.map (AV.int .u64))
end Go.Am
namespace Go.Am
def Um (l:Str):Bool:=decide (l.length≤12) && l.all fun c=>decide (97≤c.toNat∧c.toNat≤122)
theorem abc_mem (c:UInt8):c∈abc↔97≤c.toNat∧c.toNat≤122:=by
 have key:∀ n:Fin 256,(UInt8.ofNat n.val∈abc)↔(97≤n.val∧n.val≤122):=by decide +kernel
 have:=key ⟨c.toNat,c.toNat_lt⟩;simpa using this
theorem Te (l:Str):decide (Lib.trimS l abc = [])=l.all fun c=>decide (97≤c.toNat∧c.toNat≤122):=by
 rw[Bool.eq_iff_iff,decide_eq_true_iff,trim_nil,List.all_eq_true];constructor;intro h c hc; exact decide_eq_true ((abc_mem c).1 (h c hc));intro h c hc; exact(abc_mem c).2 (of_decide_eq_true (h c hc))
theorem named_c {h:AHeap} {l:Str} (hl:l.length≤1000000):ACalls Go.Proofs.Tryz.prog 140 [.str (wdQ l)] h (fun q h'=>q = .bool (Um l)∧h=h'):=by
 refine OI 11 [.tmp 2] Go.Proofs.Tryz.func140 rfl aE rfl rfl (Nat.le_of_ble_eq_true rfl) ?_;show KA _ 11 _ _ [(0,.str (wdQ l))] _;refine Oa [0] ?_;refine Oc ?_;refine Ow (dj:=6) rfl rfl true false rfl ?_ ?_
 ·intro g6;have g6:=of_decide_eq_true g6;refine Oc ?_;refine Ol rfl (trim_c hl) ?_;rintro _ _ ⟨rfl,rfl⟩;refine bW ?_;refine cZ ?_;unfold Um
  exact bM
 ·intro g6;have g6:=of_decide_eq_false g6;refine bW ?_;refine cZ ?_;unfold Um
  exact bM
def KJ : Tell → AV
  | .room r=>.ifc 257 (.agg [.str (wdQ r)])
  | .way w f t=>.ifc 259 (.agg [.str (wdQ w),.str (wdQ f),.str (wdQ t)])
  | .bound w n m=>.ifc 261 (.agg [.str (wdQ w),.int .i64 n,.bool m])
  | .pack p w=>.ifc 263 (.agg [.int .i64 p,.str (wdQ w)])
  | .move p s=>.ifc 265 (.agg [.int .i64 p,.int .i64 s])
  | .claim w n=>.ifc 267 (.agg [.str (wdQ w),.int .i64 n])
  | .free w=>.ifc 269 (.agg [.str (wdQ w)])
theorem told_c {h:AHeap} {v:AV} {l:List Str} {n:Int} (hv:WRowQ h v l) (hl:l.length=(O4 (l.getD 0 [])).length+1) (hf:O4 (l.getD 0 [])≠[]):ACalls Go.Proofs.Tryz.prog 141 [v,.int .i64 n] h (fun q h'=>q=KJ (Qu l n)∧h=h'):=by
 refine OI 82 [.tmp 4] Go.Proofs.Tryz.func141 rfl aE rfl rfl (Nat.le_of_ble_eq_true rfl) ?_;show KA _ 82 _ _ [(0,v),(1,.int .i64 n)] _;refine Oa [0,1] ?_;refine bu ?_;have hl1 : 2≤l.length:=by
  have:=List.length_pos_iff.2 hf;omega
 refine Of ?_;refine OD hv (j:=0) rfl aF ?_;intro p6 hp6;refine Kv hp6 hv aF ?_;refine On [0,1,7] ?_;refine Oz ?_;refine Oa [0,1,7,8] ?_;refine Om ?_ ?_
 ·intro c8;refine Oc ?_;refine OD hv (j:=1) rfl aF ?_;intro p11 hp11;refine Kv hp11 hv aF ?_;refine cD ?_;unfold Qu;simp only[OZ,Kd,OO,OT,OU,O0,OY,OW,OX,ON]
  exact bN
 ·intro c8;refine Oa [0,1,7,15] ?_;refine Om ?_ ?_
  ·intro c15;refine bX ?_;have hl3:l.length=4:=by rw[hl,show l.getD 0 []=Kd from c15]; rfl
   refine Of ?_;refine OD hv (j:=1) rfl aF ?_;intro p18 hp18;refine Kv hp18 hv aF ?_;refine Of ?_;refine OD hv (j:=2) rfl aF ?_;intro p21 hp21;refine Kv hp21 hv aF ?_;refine Of ?_;refine OD hv (j:=3) rfl aF ?_;intro p24 hp24;refine Kv hp24 hv aF ?_;refine OQ (zs:=[.str ⟨#[]⟩,.str ⟨#[]⟩,.str ⟨#[]⟩]) (cs:=[_,_,_]) aC aH aC (.cons (off:=0) (s:=1) aC (AV.cells_one aG) rfl aE (.cons (off:=1) (s:=1) aC (AV.cells_one aG) rfl aE (.cons (off:=2) (s:=1) aC (AV.cells_one aG) rfl aE .nil))) aH ?_;refine Kw aC ?_;refine bV ?_;refine⟨?_,rfl⟩;unfold Qu;simp only[OZ,Kd,OO,OT,OU,O0,OY,OW,OX,ON]
   exact bN
  ·intro c15;refine Oa [0,1,7,28] ?_;refine Om ?_ ?_
   ·intro c28;refine OB ?_;refine Od ?_;refine Om ?_ ?_
    ·intro c28;refine cT ?_;refine OD hv (j:=1) rfl aF ?_;intro p32 hp32;refine Kv hp32 hv aF ?_;refine Oc ?_;refine OD hv (j:=0) rfl aF ?_;intro p36 hp36;refine cB ?_;unfold Qu;simp only[OZ,Kd,OO,OT,OU,O0,OY,OW,OX,ON]
     exact bN
    ·intro c28;refine Oa [0,1,7,41] ?_;refine Om ?_ ?_
     ·intro c41;refine Oq ?_;have hl2:l.length=3:=by rw[hl,show l.getD 0 []=OU from c41]; rfl
      refine Oc ?_;refine OD hv (j:=2) rfl aF ?_;intro p45 hp45;refine cS ?_;unfold Qu;simp only[OZ,Kd,OO,OT,OU,O0,OY,OW,OX,ON]
      exact bN
     ·intro c41;refine Oa [0,1,7,49] ?_;refine Om ?_ ?_
      ·intro c49;refine bQ ?_;unfold Qu;simp only[OZ,Kd,OO,OT,OU,O0,OY,OW,OX,ON]
       exact bN
      ·intro c49;refine Oa [0,1,7,54] ?_;refine Om ?_ ?_
       ·intro c54;refine bQ ?_;unfold Qu;simp only[OZ,Kd,OO,OT,OU,O0,OY,OW,OX,ON]
        exact bN
       ·intro c54;refine Oa [0,1,7,59] ?_;refine Om ?_ ?_
        ·intro c59;refine bQ ?_;unfold Qu;simp only[OZ,Kd,OO,OT,OU,O0,OY,OW,OX,ON]
         exact bN
        ·intro c59;refine Oa [0,1,7,64] ?_;refine Om ?_ ?_
         ·intro c64;refine bQ ?_;unfold Qu;simp only[OZ,Kd,OO,OT,OU,O0,OY,OW,OX,ON]
          exact bN
         ·intro c64;refine Oa [0,1,69] ?_;refine Om ?_ ?_
          ·intro c69;refine Oc ?_;refine OD hv (j:=1) rfl aF ?_;intro p72 hp72;refine Kv hp72 hv aF ?_;refine Of ?_;refine cA ?_;refine Kw aC ?_;refine bV ?_;refine⟨?_,rfl⟩;unfold Qu;simp only[OZ,Kd,OO,OT,OU,O0,OY,OW,OX,ON]
           exact bN
          ·intro c69;refine b3 ?_;refine Ox [0] ?_;refine Oc ?_;refine OD hv (j:=1) rfl aF ?_;intro p78 hp78;refine Kv hp78 hv aF ?_;refine cD ?_;unfold Qu;simp only[OZ,Kd,OO,OT,OU,O0,OY,OW,OX,ON]
           exact bN
   ·intro c28;refine Oa [0,1,7,28] ?_;refine Om ?_ ?_
    ·intro c28;refine cT ?_;refine OD hv (j:=1) rfl aF ?_;intro p32 hp32;refine Kv hp32 hv aF ?_;refine Oc ?_;refine OD hv (j:=0) rfl aF ?_;intro p36 hp36;refine cB ?_;unfold Qu;simp only[OZ,Kd,OO,OT,OU,O0,OY,OW,OX,ON]
     exact bN
    ·intro c28;refine Oa [0,1,7,41] ?_;refine Om ?_ ?_
     ·intro c41;refine Oq ?_;have hl2:l.length=3:=by rw[hl,show l.getD 0 []=OU from c41]; rfl
      refine Oc ?_;refine OD hv (j:=2) rfl aF ?_;intro p45 hp45;refine cS ?_;unfold Qu;simp only[OZ,Kd,OO,OT,OU,O0,OY,OW,OX,ON]
      exact bN
     ·intro c41;refine Oa [0,1,7,49] ?_;refine Om ?_ ?_
      ·intro c49;refine bQ ?_;unfold Qu;simp only[OZ,Kd,OO,OT,OU,O0,OY,OW,OX,ON]
       exact bN
      ·intro c49;refine Oa [0,1,7,54] ?_;refine Om ?_ ?_
       ·intro c54;refine bQ ?_;unfold Qu;simp only[OZ,Kd,OO,OT,OU,O0,OY,OW,OX,ON]
        exact bN
       ·intro c54;refine Oa [0,1,7,59] ?_;refine Om ?_ ?_
        ·intro c59;refine bQ ?_;unfold Qu;simp only[OZ,Kd,OO,OT,OU,O0,OY,OW,OX,ON]
         exact bN
        ·intro c59;refine Oa [0,1,7,64] ?_;refine Om ?_ ?_
         ·intro c64;refine bQ ?_;unfold Qu;simp only[OZ,Kd,OO,OT,OU,O0,OY,OW,OX,ON]
          exact bN
         ·intro c64;refine Oa [0,1,69] ?_;refine Om ?_ ?_
          ·intro c69;refine Oc ?_;refine OD hv (j:=1) rfl aF ?_;intro p72 hp72;refine Kv hp72 hv aF ?_;refine Of ?_;refine cA ?_;refine Kw aC ?_;refine bV ?_;refine⟨?_,rfl⟩;unfold Qu;simp only[OZ,Kd,OO,OT,OU,O0,OY,OW,OX,ON]
           exact bN
          ·intro c69;refine b3 ?_;refine Ox [0] ?_;refine Oc ?_;refine OD hv (j:=1) rfl aF ?_;intro p78 hp78;refine Kv hp78 hv aF ?_;refine cD ?_;unfold Qu;simp only[OZ,Kd,OO,OT,OU,O0,OY,OW,OX,ON]
           exact bN
end Go.Am
