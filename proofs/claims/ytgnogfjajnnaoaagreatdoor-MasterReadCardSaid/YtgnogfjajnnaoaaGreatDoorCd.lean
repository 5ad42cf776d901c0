/-
  Contracts of Go's library out of the kit's shelf: Trim, Split, Itoa; package-level variables.
  Conditions: none.
-/
import Derived.Test.YtgnogfjajnnaoaaGreatDoorSh
import Derived.Test.YtgnogfjajnnaoaaGreatDoorCc
import Derived.Test.YtgnogfjajnnaoaaGreatDoorBb
open List renaming mem_reverse → dE, mem_cons → dI, getElem?_map → dO, getElem?_eq_none_iff → dU, dropWhile_cons → dY, length_map → dC
set_option maxRecDepth 99999
set_option maxHeartbeats 4000000
namespace Go.Am
open Go.RowKit
theorem Ev.of_below {P : Program} {f : FuncId} {args : List AV} {r : AV} {h : AHeap} (hok : Okf P f)
    (hc:∀ (φ:Emb) (w:World) (cs:List Value),HRel φ h w→VRels φ args cs→Calls P f cs.toArray w fun e w'=>∃ v,e = .returned v∧VRel φ r v∧Below w.heap.size w w'):Ev P f args h r h:=by
 refine⟨hok,HGrow.refl h,?_⟩;intro φ w cs _ rr ha;refine(hc φ w cs rr ha).mono ?_;rintro e w' ⟨v,rfl,hv,bel⟩;have hk:∀ k,k<w.heap.size→w'.heap[k]? = w.heap[k]?:=fun k hk=>bel.block k hk
 refine⟨v,φ,rfl,⟨Emb.le_refl φ,fun b h1 h2=>by omega,fun b p h1 h2=>(by rw[h1] at h2; cases h2),fun b k i z h1 h2=>(by rw[h1] at h2; cases h2),fun k hk' _=>hk k hk',bel.os,bel.tape,bel.output,bel.size⟩,?_,hv⟩;refine⟨rr.glob,fun b k i z hb=>Nat.lt_of_lt_of_le (rr.lt b k i z hb) bel.size,?_,?_,rr.one,rr.sep,rr.map,rr.ext⟩;intro b k i z B hb hB hv;exact(rr.blk b k i z B hb hB hv).world (hk k (rr.lt b k i z hb));intro b k i z F p cs hb hB;obtain⟨c,e,h2,h3⟩:=rr.arr b k i z F p cs hb hB;exact⟨c,e,h2.old (hk k (rr.lt b k i z hb)),h3⟩
def VarAt (h:AHeap) (g:Nat) (cs:List AV):Prop:=h.globs.contains g=true∧h.get g=some (.cells none 1 cs)
theorem VarAt.ext {h h':AHeap} {g:Nat} {cs:List AV} (z:VarAt h g cs) (k:Keeps h h'):VarAt h' g cs:=⟨by rw[k.globs]; exact z.1,k.get_some z.2⟩
theorem VarAt.rel {φ:Emb} {h:AHeap} {w:World} {g:Nat} {cs:List AV} (z:VarAt h g cs) (r:HRel φ h w):∃ c e f,w.heap[g]? = some (.cells c e f)∧c.size=cs.length∧∀ (j:Nat) (x:AV),cs[j]? = some x→∃ v,c[j]? = some v∧VRel φ x v:=by
 obtain⟨u,hu⟩:=r.glob g (by simpa using z.1);have hb:=r.blk g g 0 u _ hu z.2 (by unfold AHeap.valid; rw[z.2]);obtain⟨_,c,e,f,h1,h2⟩:=hb.2 rfl;refine⟨c,e,f,h1,h2,fun j x hx=>?_⟩;obtain⟨v,h3,h4⟩:=hb.1 j x hx;refine⟨v,?_,h4⟩;rw[Nat.zero_add] at h3;simpa [World.cell?,h1] using h3
theorem idx1 (c:UInt8):∀ l:Str,Lib.index l [c]=if c∈l then (O1 l c:Int) else -1:=by
 intro l
 induction l with
 | nil=>rfl
 | cons a l ih=>
  unfold Lib.index;have hp : [c].isPrefixOf (a::l)=(c == a):=by simp[List.isPrefixOf]
  rw[hp,ih];by_cases h:c=a;subst h; simp[O1];have hb:(c == a)=false:=by simpa using h
  rw[hb];by_cases hm:c∈l;rw[if_neg aE,if_pos hm,if_pos (List.mem_cons_of_mem _ hm)];rw[if_neg (by rw[beq_iff_eq]; omega)];simp only[O1,if_neg h];omega;rw[if_neg aE,if_neg hm,if_neg (fun hc=>(dI.1 hc).elim h hm)];rfl
theorem UZ (c:UInt8):∀ l:Str,c ∉ l→O0 c l = [l]:=by
 intro l
 induction l with
 | nil=>intro _; rfl
 | cons a l ih=>
  intro h;simp only[dI,not_or] at h;simp only[O0,if_neg (fun e=>h.1 (Eq.symm e)),ih h.2]
theorem V2 (c:UInt8):∀ l:Str,O0 c l≠[]:=by
 intro l
 cases l with
 | nil=>simp[O0]
 | cons a l=>
  simp only[O0];split;simp;split <;> simp
theorem splitC_hit (c:UInt8):∀ l:Str,c∈l→O0 c l=l.take (O1 l c)::O0 c (l.drop (O1 l c+1)):=by
 intro l
 induction l with
 | nil=>intro h; cases h
 | cons a l ih=>
  intro h;by_cases he:c=a;subst he;simp[O0,O1];have hm:=(dI.1 h).resolve_left he;simp only[O0,if_neg (fun e=>he (Eq.symm e)),O1,if_neg he,ih hm,List.take_succ_cons,List.drop_succ_cons]
theorem Vo (c:UInt8):∀ (k:Nat) (l:Str),Lib.countB (wd l) (wd [c])=k→Lib.splitB (wd [c]) 0 k (wd l)=(O0 c l).map wd:=by
 intro k
 induction k with
 | zero=>
  intro l h;by_cases hm:c∈l;exfalso;have hi:Lib.indexB (wd l) (wd [c])=(O1 l c:Int):=by
   show Lib.index l [c]=_;rw[idx1,if_pos hm]
  have:=Lib.countB_hit (wd l) (wd [c]) (O1 l c) aj hi;omega;rw[UZ c l hm];rfl
 | succ k ih=>
  intro l h;by_cases hm:c∈l;have hi:Lib.indexB (wd l) (wd [c])=(O1 l c:Int):=by
   show Lib.index l [c]=_;rw[idx1,if_pos hm]
  have h2:=Lib.countB_hit (wd l) (wd [c]) (O1 l c) aj hi;have e1:(wd l).extract (O1 l c+(wd [c]).size) (wd l).size=wd (l.drop (O1 l c+1)):=by
   rw[Vt,wd_size,wd_size,List.take_length];rfl
  have e2:(wd l).extract 0 (O1 l c+0)=wd (l.take (O1 l c)):=by
   rw[Vt]; rfl
  rw[e1] at h2;rw[Lib.splitB_hit _ _ _ _ _ hi,e1,e2,splitC_hit c l hm,List.map_cons,ih _ aA];exfalso;have hi:Lib.indexB (wd l) (wd [c]) = -1:=by
   show Lib.index l [c]=_;rw[idx1,if_neg hm]
  have:=Lib.countB_miss (wd l) (wd [c]) hi;omega
def Mx (h:AHeap):Prop:=∃ m:Int,VarAt h 3 [.int .i64 m]
theorem Mx.ext {h h':AHeap} (z:Mx h) (k:Keeps h h'):Mx h':=let⟨m,hm⟩:=z; ⟨m,hm.ext k⟩
theorem split_c {h:AHeap} {l:Str} {c:UInt8} (hM:Mx h) (hl:l.length≤1000000):ACalls Go.Proofs.Tryz.prog 43 [.str (wd l),.str (wd [c])] h (fun q h'=>YG q∧St h h' [⟨q,1,wcs (O0 c l),true⟩]):=by
 have hlen:(O0 c l).length=Lib.countB (wd l) (wd [c])+1:=by
  have:=Lib.splitB_all (wd [c]) aj 0 _ (wd l) rfl;rw[Vo c _ l rfl,dC] at this;exact this
 have hle:=Lib.countB_le (wd [c]) aj _ (wd l) (Nat.le_refl _);rw[wd_size] at hle;refine⟨.slc h.next 0 (O0 c l).length 1 true,h.alloc (wcs (O0 c l)),⟨⟨_,Go.Proofs.Tryz.func43,by decide,rfl⟩,HGrow.alloc _ _,?_⟩,⟨_,_,_,_,_,rfl⟩,St.alloc (St.refl h) (.inl ⟨_,_,rfl,by simp,by decide⟩)⟩;intro φ w cs hfr rr ha;obtain⟨a,b,rfl⟩:∃ a b,cs = [a,b]:=by
  match cs,ha.1 with
  | [a,b],_=>exact⟨a,b,rfl⟩
 have h1:=ha.2 0 _ _ rfl rfl;have h2:=ha.2 1 _ _ rfl rfl
 cases h1; cases h2
 obtain⟨m,hm⟩:=hM;obtain⟨C,e,f,g1,g2,g3⟩:=hm.rel rr;obtain⟨v,g4,g5⟩:=g3 0 _ rfl;cases g5;refine(Go.Proofs.Tryz.strings_Split (wd l) (wd [c]) m w (by rw[wd_size]; omega) (by simp[World.cell?,g1,g4]) aj).mono ?_;rintro e w' ⟨rfl,rfl⟩;have hφ : φ h.next=none:=hfr h.next (Nat.le_refl _) (by rw[AHeap.next_alloc]; omega);have hca:CellsAt φ (wcs (O0 c l)) ((Lib.splitB (wd [c]) 0 (Lib.countB (wd l) (wd [c])) (wd l)).map Value.string).toArray 0:=by
  intro j x hx;rw[dO,Option.map_eq_some_iff] at hx;obtain⟨y,hy,rfl⟩:=hx;refine⟨.string (wd y),?_,.str _⟩;rw[Vo c _ l rfl];simp[hy]
 obtain⟨r',tr⟩:=rr.alloc hφ (wcs (O0 c l)) _ 9 (by rw[Vo c _ l rfl]; simp) hca;refine⟨_,_,rfl,tr,r',?_⟩;rw[←hlen];refine .slc _ _ _ _ _ _ _ aA (by unfold maxLen; omega) (fun _=>by omega) (.inr ⟨_,0,_,Emb.upd_same _ _ _,by simp,?_⟩);rw[Vo c _ l rfl];simp
def abc:Str:=[97,98,99,100,101,102,103,104,105,106,107,108,109,110,111,112,113,114,115,116,117,118,119,120,121,122]
theorem trim_c {h:AHeap} {l:Str} (hl:l.length≤1000000):ACalls Go.Proofs.Tryz.prog 140 [.str (wd l),.str (wd abc)] h (fun q h'=>q = .str (wd (Lib.trimS l abc))∧h=h'):=by
 refine⟨_,_,Ev.of_below ⟨_,Go.Proofs.Tryz.func140,by decide,rfl⟩ ?_,rfl,rfl⟩;intro φ w cs _ ha;obtain⟨a,b,rfl⟩:∃ a b,cs = [a,b]:=by
  match cs,ha.1 with
  | [a,b],_=>exact⟨a,b,rfl⟩
 have h1:=ha.2 0 _ _ rfl rfl;have h2:=ha.2 1 _ _ rfl rfl
 cases h1; cases h2
 refine(Go.Proofs.Tryz.strings_Trim_laid (wd l) (wd abc) w (by rw[wd_size]; omega) (by rw[wd_size]; decide) (Go.Proofs.ascii_of_all aE)).mono ?_;rintro e w' ⟨rfl,bel⟩;exact⟨_,rfl,.str _,bel⟩
theorem Wa {α:Type} (p : α→Bool):∀ l:List α,l.dropWhile p = []↔∀ x∈l,p x=true:=by
 intro l
 induction l with
 | nil=>simp
 | cons a l ih=>
  rw[dY];by_cases h:p a=true;rw[if_pos h,ih]; simp[h];rw[if_neg h]; simp[h]
theorem trim_nil (l cs:Str):Lib.trimS l cs = []↔∀ c∈l,c∈cs:=by
 unfold Lib.trimS Lib.trimLeftS Lib.trimRightS;rw[Wa];constructor
 ·intro h c hc;have key:∀ m:Str,(∀ x∈(m.dropWhile (cs.contains ·)).reverse,cs.contains x=true)→∀ x∈m,cs.contains x=true:=by
   intro m
   induction m with
   | nil=>intro _ x hx; cases hx
   | cons a m ih=>
    intro hm x hx;rw[dY] at hm;by_cases ha:cs.contains a=true;rw[if_pos ha] at hm;rcases dI.1 hx with rfl|hx
    exact ha;exact ih hm x hx;rw[if_neg ha] at hm;exact hm x (dE.2 hx)
  have:=key l.reverse h c (dE.2 hc);simpa using this
 intro h x hx;have:=List.dropWhile_sublist (p:=(cs.contains ·)) (l:=l.reverse);have hm:=this.subset (dE.1 hx);have:=h x (dE.1 hm);simpa using this
def Pow (h:AHeap):Prop:=VarAt h 4 (Lib.pow10Tab.map (AV.int .u64))
theorem VR {h:AHeap} {n:Int} (hP:Pow h) (h0 : -9223372036854775808≤n) (h1:n≤9223372036854775807):ACalls Go.Proofs.Tryz.prog 50 [.int .i64 n] h (fun q h'=>q = .str (wd (Lib.itoa n))∧h=h'):=by
 refine⟨_,_,Ev.of_below ⟨_,Go.Proofs.Tryz.func50,by decide,rfl⟩ ?_,rfl,rfl⟩;intro φ w cs rr ha;obtain⟨a,rfl⟩:∃ a,cs = [a]:=by
  match cs,ha.1 with
  | [a],_=>exact⟨a,rfl⟩
 have h2:=ha.2 0 _ _ rfl rfl;cases h2;obtain⟨C,e,f,g1,g2,g3⟩:=hP.rel rr;have ht:Lib.TabIs Go.Proofs.Tryz.prog w "internal/strconv.uint64pow10" .u64 Lib.pow10Tab:=by
  unfold Lib.TabIs World.var?;have hg:Go.Proofs.Tryz.prog.globalNamed "internal/strconv.uint64pow10" = some 4:=by kernel_rfl
  rw[hg,Option.bind_some,g1];show some C=_;congr 1;apply Array.ext';refine List.ext_getElem? fun j=>?_
  rw[dO]
  cases hj:Lib.pow10Tab[j]? with
  | none=>
   have hlt:=dU.1 hj;rw[Option.map_none,dU,Array.length_toList,g2,dC];exact hlt
  | some x=>
   obtain⟨v,g4,g5⟩:=g3 j (.int .u64 x) (by rw[dO,hj]; rfl);cases g5;simpa using g4
 refine(Go.Proofs.Tryz.strconv_Itoa n h0 h1 w ht).mono ?_;rintro e w' ⟨rfl,k,os,rfl⟩;refine⟨_,rfl,.str _,⟨rfl,rfl,rfl,by show w.heap.size≤(w.heap ++ os).size; rw[Array.size_append]; omega,fun g hg=>?_⟩⟩;show(w.heap ++ os)[g]? = _;exact Array.getElem?_append_left hg
end Go.Am
namespace Go.Am
def Jd (l:Str):Bool:=decide (l.length≤12) && l.all fun c=>decide (97≤c.toNat∧c.toNat≤122)
theorem abc_mem (c:UInt8):c∈abc↔97≤c.toNat∧c.toNat≤122:=by
 have key:∀ n:Fin 256,(UInt8.ofNat n.val∈abc)↔(97≤n.val∧n.val≤122):=by decide +kernel
 have:=key ⟨c.toNat,c.toNat_lt⟩;simpa using this
theorem U2 (l:Str):decide (Lib.trimS l abc = [])=l.all fun c=>decide (97≤c.toNat∧c.toNat≤122):=by
 rw[Bool.eq_iff_iff,decide_eq_true_iff,trim_nil,List.all_eq_true];constructor;intro h c hc; exact decide_eq_true ((abc_mem c).1 (h c hc));intro h c hc; exact(abc_mem c).2 (of_decide_eq_true (h c hc))
theorem named_c {h:AHeap} {l:Str} (hl:l.length≤1000000):ACalls Go.Proofs.Tryz.prog 108 [.str (wd l)] h (fun q h'=>q = .bool (Jd l)∧h=h'):=by
 refine OH 11 [.tmp 2] Go.Proofs.Tryz.func108 rfl aE rfl rfl (Nat.le_of_ble_eq_true rfl) ?_;show KA _ 11 _ _ [(0,.str (wd l))] _;refine cq ?_;refine OD (dj:=6) rfl rfl true false rfl ?_ ?_
 ·intro g6;have g6:=of_decide_eq_true g6;refine Oc ?_;refine Oj rfl (trim_c hl) ?_;rintro _ _ ⟨rfl,rfl⟩;refine bT ?_;refine ce ?_;unfold Jd
  exact bN
 ·intro g6;have g6:=of_decide_eq_false g6;refine bT ?_;refine ce ?_;unfold Jd
  exact bN
def KM : Tell → AV
  | .room r=>.ifc 199 (.agg [.str (wd r)])
  | .way w f t=>.ifc 201 (.agg [.str (wd w),.str (wd f),.str (wd t)])
  | .bound w n m=>.ifc 203 (.agg [.str (wd w),.int .i64 n,.bool m])
  | .pack p w=>.ifc 205 (.agg [.int .i64 p,.str (wd w)])
  | .move p s=>.ifc 207 (.agg [.int .i64 p,.int .i64 s])
  | .claim w n=>.ifc 209 (.agg [.str (wd w),.int .i64 n])
  | .free w=>.ifc 211 (.agg [.str (wd w)])
theorem told_c {h:AHeap} {v:AV} {l:List Str} {n:Int} (hv:WRow h v l) (hl:l.length=(OX (l.getD 0 [])).length+1) (hf:OX (l.getD 0 [])≠[]):ACalls Go.Proofs.Tryz.prog 109 [v,.int .i64 n] h (fun q h'=>q=KM (Qm l n)∧h=h'):=by
 refine OH 82 [.tmp 4] Go.Proofs.Tryz.func109 rfl aE rfl rfl (Nat.le_of_ble_eq_true rfl) ?_;show KA _ 82 _ _ [(0,v),(1,.int .i64 n)] _;refine Oa [0,1] ?_;refine b4 ?_;have hl1 : 2≤l.length:=by
  have:=List.length_pos_iff.2 hf;omega
 refine Od ?_;refine Ow hv (j:=0) rfl aB ?_;intro p6 hp6;refine OY hp6 hv aB ?_;refine Om [0,1,7] ?_;refine Oz ?_;refine Oa [0,1,7,8] ?_;refine Oo ?_ ?_
 ·intro c8;refine Oc ?_;refine Ow hv (j:=1) rfl aB ?_;intro p11 hp11;refine OY hp11 hv aB ?_;refine cB ?_;unfold Qm;simp only[OT,Ka,OM,OO,OP,OU,OS,OQ,OR,OL]
  exact bO
 ·intro c8;refine Oa [0,1,7,15] ?_;refine Oo ?_ ?_
  ·intro c15;refine bZ ?_;have hl3:l.length=4:=by rw[hl,show l.getD 0 []=Ka from c15]; rfl
   refine Od ?_;refine Ow hv (j:=1) rfl aB ?_;intro p18 hp18;refine OY hp18 hv aB ?_;refine Od ?_;refine Ow hv (j:=2) rfl aB ?_;intro p21 hp21;refine OY hp21 hv aB ?_;refine Od ?_;refine Ow hv (j:=3) rfl aB ?_;intro p24 hp24;refine OY hp24 hv aB ?_;refine Kr (zs:=[.str ⟨#[]⟩,.str ⟨#[]⟩,.str ⟨#[]⟩]) (cs:=[_,_,_]) aD aN aD (.cons (off:=0) (s:=1) aD (AV.cells_one aH) rfl aE (.cons (off:=1) (s:=1) aD (AV.cells_one aH) rfl aE (.cons (off:=2) (s:=1) aD (AV.cells_one aH) rfl aE .nil))) aN ?_;refine Ku aD ?_;refine bV ?_;refine⟨?_,rfl⟩;unfold Qm;simp only[OT,Ka,OM,OO,OP,OU,OS,OQ,OR,OL]
   exact bO
  ·intro c15;refine Oa [0,1,7,28] ?_;refine Oo ?_ ?_
   ·intro c28;refine Ox ?_;refine Oe ?_;refine Oo ?_ ?_
    ·intro c28;refine cV ?_;refine Ow hv (j:=1) rfl aB ?_;intro p32 hp32;refine OY hp32 hv aB ?_;refine Oc ?_;refine Ow hv (j:=0) rfl aB ?_;intro p36 hp36;refine b6 ?_;unfold Qm;simp only[OT,Ka,OM,OO,OP,OU,OS,OQ,OR,OL]
     exact bO
    ·intro c28;refine Oa [0,1,7,41] ?_;refine Oo ?_ ?_
     ·intro c41;refine Ot ?_;have hl2:l.length=3:=by rw[hl,show l.getD 0 []=OP from c41]; rfl
      refine Oc ?_;refine Ow hv (j:=2) rfl aB ?_;intro p45 hp45;refine cK ?_;unfold Qm;simp only[OT,Ka,OM,OO,OP,OU,OS,OQ,OR,OL]
      exact bO
     ·intro c41;refine Oa [0,1,7,49] ?_;refine Oo ?_ ?_
      ·intro c49;refine bR ?_;unfold Qm;simp only[OT,Ka,OM,OO,OP,OU,OS,OQ,OR,OL]
       exact bO
      ·intro c49;refine Oa [0,1,7,54] ?_;refine Oo ?_ ?_
       ·intro c54;refine bR ?_;unfold Qm;simp only[OT,Ka,OM,OO,OP,OU,OS,OQ,OR,OL]
        exact bO
       ·intro c54;refine Oa [0,1,7,59] ?_;refine Oo ?_ ?_
        ·intro c59;refine bR ?_;unfold Qm;simp only[OT,Ka,OM,OO,OP,OU,OS,OQ,OR,OL]
         exact bO
        ·intro c59;refine Oa [0,1,7,64] ?_;refine Oo ?_ ?_
         ·intro c64;refine bR ?_;unfold Qm;simp only[OT,Ka,OM,OO,OP,OU,OS,OQ,OR,OL]
          exact bO
         ·intro c64;refine Oa [0,1,69] ?_;refine Oo ?_ ?_
          ·intro c69;refine Oc ?_;refine Ow hv (j:=1) rfl aB ?_;intro p72 hp72;refine OY hp72 hv aB ?_;refine Od ?_;refine b5 ?_;refine Ku aD ?_;refine bV ?_;refine⟨?_,rfl⟩;unfold Qm;simp only[OT,Ka,OM,OO,OP,OU,OS,OQ,OR,OL]
           exact bO
          ·intro c69;refine bY ?_;refine Ou [0] ?_;refine Oc ?_;refine Ow hv (j:=1) rfl aB ?_;intro p78 hp78;refine OY hp78 hv aB ?_;refine cB ?_;unfold Qm;simp only[OT,Ka,OM,OO,OP,OU,OS,OQ,OR,OL]
           exact bO
   ·intro c28;refine Oa [0,1,7,28] ?_;refine Oo ?_ ?_
    ·intro c28;refine cV ?_;refine Ow hv (j:=1) rfl aB ?_;intro p32 hp32;refine OY hp32 hv aB ?_;refine Oc ?_;refine Ow hv (j:=0) rfl aB ?_;intro p36 hp36;refine b6 ?_;unfold Qm;simp only[OT,Ka,OM,OO,OP,OU,OS,OQ,OR,OL]
     exact bO
    ·intro c28;refine Oa [0,1,7,41] ?_;refine Oo ?_ ?_
     ·intro c41;refine Ot ?_;have hl2:l.length=3:=by rw[hl,show l.getD 0 []=OP from c41]; rfl
      refine Oc ?_;refine Ow hv (j:=2) rfl aB ?_;intro p45 hp45;refine cK ?_;unfold Qm;simp only[OT,Ka,OM,OO,OP,OU,OS,OQ,OR,OL]
      exact bO
     ·intro c41;refine Oa [0,1,7,49] ?_;refine Oo ?_ ?_
      ·intro c49;refine bR ?_;unfold Qm;simp only[OT,Ka,OM,OO,OP,OU,OS,OQ,OR,OL]
       exact bO
      ·intro c49;refine Oa [0,1,7,54] ?_;refine Oo ?_ ?_
       ·intro c54;refine bR ?_;unfold Qm;simp only[OT,Ka,OM,OO,OP,OU,OS,OQ,OR,OL]
        exact bO
       ·intro c54;refine Oa [0,1,7,59] ?_;refine Oo ?_ ?_
        ·intro c59;refine bR ?_;unfold Qm;simp only[OT,Ka,OM,OO,OP,OU,OS,OQ,OR,OL]
         exact bO
        ·intro c59;refine Oa [0,1,7,64] ?_;refine Oo ?_ ?_
         ·intro c64;refine bR ?_;unfold Qm;simp only[OT,Ka,OM,OO,OP,OU,OS,OQ,OR,OL]
          exact bO
         ·intro c64;refine Oa [0,1,69] ?_;refine Oo ?_ ?_
          ·intro c69;refine Oc ?_;refine Ow hv (j:=1) rfl aB ?_;intro p72 hp72;refine OY hp72 hv aB ?_;refine Od ?_;refine b5 ?_;refine Ku aD ?_;refine bV ?_;refine⟨?_,rfl⟩;unfold Qm;simp only[OT,Ka,OM,OO,OP,OU,OS,OQ,OR,OL]
           exact bO
          ·intro c69;refine bY ?_;refine Ou [0] ?_;refine Oc ?_;refine Ow hv (j:=1) rfl aB ?_;intro p78 hp78;refine OY hp78 hv aB ?_;refine cB ?_;unfold Qm;simp only[OT,Ka,OM,OO,OP,OU,OS,OQ,OR,OL]
           exact bO
end Go.Am
