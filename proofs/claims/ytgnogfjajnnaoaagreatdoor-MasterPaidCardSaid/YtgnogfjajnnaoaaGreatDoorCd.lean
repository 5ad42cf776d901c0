/-
  Layer 14: lines are read.
  Conditions: none.
-/
import Derived.Test.YtgnogfjajnnaoaaGreatDoorBc
import Derived.Test.YtgnogfjajnnaoaaGreatDoorOb
set_option maxRecDepth 99999
set_option maxHeartbeats 4000000
namespace Go.Am
def JI (l:Str):Bool:=decide (l.length≤12) && l.all fun c=>decide (97≤c.toNat∧c.toNat≤122)
theorem abc_mem (c:UInt8):c∈abc↔97≤c.toNat∧c.toNat≤122:=by
 have key:∀ n:Fin 256,(UInt8.ofNat n.val∈abc)↔(97≤n.val∧n.val≤122):=by decide +kernel
 have:=key ⟨c.toNat,c.toNat_lt⟩;simpa using this
theorem Wk (l:Str):decide (Lib.trimS l abc = [])=l.all fun c=>decide (97≤c.toNat∧c.toNat≤122):=by
 rw[Bool.eq_iff_iff,decide_eq_true_iff,trim_nil,List.all_eq_true];constructor;intro h c hc; exact decide_eq_true ((abc_mem c).1 (h c hc));intro h c hc; exact(abc_mem c).2 (of_decide_eq_true (h c hc))
theorem named_c {h:AHeap} {l:Str} (hl:l.length≤1000000):ACalls Go.Proofs.Tryz.prog 108 [.str (wd l)] h (fun q h'=>q = .bool (JI l)∧h=h'):=by
 refine OP 11 [.tmp 2] Go.Proofs.Tryz.func108 rfl aD rfl rfl (Nat.le_of_ble_eq_true rfl) ?_;show KA _ 11 _ _ [(0,.str (wd l))] _;refine cw ?_;refine OD (dj:=6) rfl rfl true false rfl ?_ ?_
 ·intro g6;have g6:=of_decide_eq_true g6;refine Oc ?_;refine Ol rfl (trim_c hl) ?_;rintro _ _ ⟨rfl,rfl⟩;refine bT ?_;refine cj ?_;unfold JI
  exact bM
 ·intro g6;have g6:=of_decide_eq_false g6;refine bT ?_;refine cj ?_;unfold JI
  exact bM
def KR : Tell → AV
  | .room r=>.ifc 199 (.agg [.str (wd r)])
  | .way w f t=>.ifc 201 (.agg [.str (wd w),.str (wd f),.str (wd t)])
  | .bound w n m=>.ifc 203 (.agg [.str (wd w),.int .i64 n,.bool m])
  | .pack p w=>.ifc 205 (.agg [.int .i64 p,.str (wd w)])
  | .move p s=>.ifc 207 (.agg [.int .i64 p,.int .i64 s])
  | .claim w n=>.ifc 209 (.agg [.str (wd w),.int .i64 n])
  | .free w=>.ifc 211 (.agg [.str (wd w)])
theorem told_c {h:AHeap} {v:AV} {l:List Str} {n:Int} (hv:WRow h v l) (hl:l.length=(OR (l.getD 0 [])).length+1) (hf:OR (l.getD 0 [])≠[]):ACalls Go.Proofs.Tryz.prog 109 [v,.int .i64 n] h (fun q h'=>q=KR (Qu l n)∧h=h'):=by
 refine OP 82 [.tmp 4] Go.Proofs.Tryz.func109 rfl aD rfl rfl (Nat.le_of_ble_eq_true rfl) ?_;show KA _ 82 _ _ [(0,v),(1,.int .i64 n)] _;refine Oa [0,1] ?_;refine bw ?_;have hl1 : 2≤l.length:=by
  have:=List.length_pos_iff.2 hf;omega
 refine Oe ?_;refine Ou hv (j:=0) rfl aB ?_;intro p6 hp6;refine OJ hp6 hv aB ?_;refine Oo [0,1,7] ?_;refine OB ?_;refine Oa [0,1,7,8] ?_;refine Om ?_ ?_
 ·intro c8;refine Oc ?_;refine Ou hv (j:=1) rfl aB ?_;intro p11 hp11;refine OJ hp11 hv aB ?_;refine cP ?_;unfold Qu;simp only[ON,OZ,OH,OO,OL,OS,OT,OU,OW,OI]
  exact bN
 ·intro c8;refine Oa [0,1,7,15] ?_;refine Om ?_ ?_
  ·intro c15;refine ba ?_;have hl3:l.length=4:=by rw[hl,show l.getD 0 []=OZ from c15]; rfl
   refine Oe ?_;refine Ou hv (j:=1) rfl aB ?_;intro p18 hp18;refine OJ hp18 hv aB ?_;refine Oe ?_;refine Ou hv (j:=2) rfl aB ?_;intro p21 hp21;refine OJ hp21 hv aB ?_;refine Oe ?_;refine Ou hv (j:=3) rfl aB ?_;intro p24 hp24;refine OJ hp24 hv aB ?_;refine Kc (zs:=[.str ⟨#[]⟩,.str ⟨#[]⟩,.str ⟨#[]⟩]) (cs:=[_,_,_]) aE aM aE (.cons (off:=0) (s:=1) aE (AV.cells_one aH) rfl aD (.cons (off:=1) (s:=1) aE (AV.cells_one aH) rfl aD (.cons (off:=2) (s:=1) aE (AV.cells_one aH) rfl aD .nil))) aM ?_;refine bg ?_;unfold Qu;simp only[ON,OZ,OH,OO,OL,OS,OT,OU,OW,OI]
   exact bN
  ·intro c15;refine Oa [0,1,7,28] ?_;refine Om ?_ ?_
   ·intro c28;refine Oy ?_;refine Od ?_;refine Om ?_ ?_
    ·intro c28;refine cY ?_;refine Ou hv (j:=1) rfl aB ?_;intro p32 hp32;refine OJ hp32 hv aB ?_;refine Oc ?_;refine Ou hv (j:=0) rfl aB ?_;intro p36 hp36;refine cE ?_;unfold Qu;simp only[ON,OZ,OH,OO,OL,OS,OT,OU,OW,OI]
     exact bN
    ·intro c28;refine Oa [0,1,7,41] ?_;refine Om ?_ ?_
     ·intro c41;refine Ow ?_;have hl2:l.length=3:=by rw[hl,show l.getD 0 []=OL from c41]; rfl
      refine Oc ?_;refine Ou hv (j:=2) rfl aB ?_;intro p45 hp45;refine cV ?_;unfold Qu;simp only[ON,OZ,OH,OO,OL,OS,OT,OU,OW,OI]
      exact bN
     ·intro c41;refine Oa [0,1,7,49] ?_;refine Om ?_ ?_
      ·intro c49;refine cn ?_;unfold Qu;simp only[ON,OZ,OH,OO,OL,OS,OT,OU,OW,OI]
       exact bN
      ·intro c49;refine Oa [0,1,7,54] ?_;refine Om ?_ ?_
       ·intro c54;refine cn ?_;unfold Qu;simp only[ON,OZ,OH,OO,OL,OS,OT,OU,OW,OI]
        exact bN
       ·intro c54;refine Oa [0,1,7,59] ?_;refine Om ?_ ?_
        ·intro c59;refine cn ?_;unfold Qu;simp only[ON,OZ,OH,OO,OL,OS,OT,OU,OW,OI]
         exact bN
        ·intro c59;refine Oa [0,1,7,64] ?_;refine Om ?_ ?_
         ·intro c64;refine cn ?_;unfold Qu;simp only[ON,OZ,OH,OO,OL,OS,OT,OU,OW,OI]
          exact bN
         ·intro c64;refine Oa [0,1,69] ?_;refine Om ?_ ?_
          ·intro c69;refine Oc ?_;refine Ou hv (j:=1) rfl aB ?_;intro p72 hp72;refine OJ hp72 hv aB ?_;refine Oe ?_;refine b3 ?_;refine bg ?_;unfold Qu;simp only[ON,OZ,OH,OO,OL,OS,OT,OU,OW,OI]
           exact bN
          ·intro c69;refine cH ?_;refine Oq [0] ?_;refine Oc ?_;refine Ou hv (j:=1) rfl aB ?_;intro p78 hp78;refine OJ hp78 hv aB ?_;refine cP ?_;unfold Qu;simp only[ON,OZ,OH,OO,OL,OS,OT,OU,OW,OI]
           exact bN
   ·intro c28;refine Oa [0,1,7,28] ?_;refine Om ?_ ?_
    ·intro c28;refine cY ?_;refine Ou hv (j:=1) rfl aB ?_;intro p32 hp32;refine OJ hp32 hv aB ?_;refine Oc ?_;refine Ou hv (j:=0) rfl aB ?_;intro p36 hp36;refine cE ?_;unfold Qu;simp only[ON,OZ,OH,OO,OL,OS,OT,OU,OW,OI]
     exact bN
    ·intro c28;refine Oa [0,1,7,41] ?_;refine Om ?_ ?_
     ·intro c41;refine Ow ?_;have hl2:l.length=3:=by rw[hl,show l.getD 0 []=OL from c41]; rfl
      refine Oc ?_;refine Ou hv (j:=2) rfl aB ?_;intro p45 hp45;refine cV ?_;unfold Qu;simp only[ON,OZ,OH,OO,OL,OS,OT,OU,OW,OI]
      exact bN
     ·intro c41;refine Oa [0,1,7,49] ?_;refine Om ?_ ?_
      ·intro c49;refine cn ?_;unfold Qu;simp only[ON,OZ,OH,OO,OL,OS,OT,OU,OW,OI]
       exact bN
      ·intro c49;refine Oa [0,1,7,54] ?_;refine Om ?_ ?_
       ·intro c54;refine cn ?_;unfold Qu;simp only[ON,OZ,OH,OO,OL,OS,OT,OU,OW,OI]
        exact bN
       ·intro c54;refine Oa [0,1,7,59] ?_;refine Om ?_ ?_
        ·intro c59;refine cn ?_;unfold Qu;simp only[ON,OZ,OH,OO,OL,OS,OT,OU,OW,OI]
         exact bN
        ·intro c59;refine Oa [0,1,7,64] ?_;refine Om ?_ ?_
         ·intro c64;refine cn ?_;unfold Qu;simp only[ON,OZ,OH,OO,OL,OS,OT,OU,OW,OI]
          exact bN
         ·intro c64;refine Oa [0,1,69] ?_;refine Om ?_ ?_
          ·intro c69;refine Oc ?_;refine Ou hv (j:=1) rfl aB ?_;intro p72 hp72;refine OJ hp72 hv aB ?_;refine Oe ?_;refine b3 ?_;refine bg ?_;unfold Qu;simp only[ON,OZ,OH,OO,OL,OS,OT,OU,OW,OI]
           exact bN
          ·intro c69;refine cH ?_;refine Oq [0] ?_;refine Oc ?_;refine Ou hv (j:=1) rfl aB ?_;intro p78 hp78;refine OJ hp78 hv aB ?_;refine cP ?_;unfold Qu;simp only[ON,OZ,OH,OO,OL,OS,OT,OU,OW,OI]
           exact bN
end Go.Am
