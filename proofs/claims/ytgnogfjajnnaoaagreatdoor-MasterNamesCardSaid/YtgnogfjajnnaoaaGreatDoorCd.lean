/-
  Layer 14: lines are read.
  Conditions: none.
-/
import Derived.Test.YtgnogfjajnnaoaaGreatDoorBc
import Derived.Test.YtgnogfjajnnaoaaGreatDoorCb
set_option maxRecDepth 99999
set_option maxHeartbeats 4000000
namespace Go.Am
def JG (l:Str):Bool:=decide (l.length≤12) && l.all fun c=>decide (97≤c.toNat∧c.toNat≤122)
theorem abc_mem (c:UInt8):c∈abc↔97≤c.toNat∧c.toNat≤122:=by
 have key:∀ n:Fin 256,(UInt8.ofNat n.val∈abc)↔(97≤n.val∧n.val≤122):=by decide +kernel
 have:=key ⟨c.toNat,c.toNat_lt⟩;simpa using this
theorem WE (l:Str):decide (Lib.trimS l abc = [])=l.all fun c=>decide (97≤c.toNat∧c.toNat≤122):=by
 rw[Bool.eq_iff_iff,decide_eq_true_iff,trim_nil,List.all_eq_true];constructor;intro h c hc; exact decide_eq_true ((abc_mem c).1 (h c hc));intro h c hc; exact(abc_mem c).2 (of_decide_eq_true (h c hc))
theorem named_c {h:AHeap} {l:Str} (hl:l.length≤1000000):ACalls Go.Proofs.Tryz.prog 108 [.str (wd l)] h (fun q h'=>q = .bool (JG l)∧h=h'):=by
 refine OL 11 [.tmp 2] Go.Proofs.Tryz.func108 rfl aD rfl rfl (Nat.le_of_ble_eq_true rfl) ?_;show KA _ 11 _ _ [(0,.str (wd l))] _;refine cm ?_;refine OC (dj:=6) rfl rfl true false rfl ?_ ?_
 ·intro g6;have g6:=of_decide_eq_true g6;refine Oc ?_;refine Oi rfl (trim_c hl) ?_;rintro _ _ ⟨rfl,rfl⟩;refine bT ?_;refine cY ?_;unfold JG
  exact bN
 ·intro g6;have g6:=of_decide_eq_false g6;refine bT ?_;refine cY ?_;unfold JG
  exact bN
def KM : Tell → AV
  | .room r=>.ifc 199 (.agg [.str (wd r)])
  | .way w f t=>.ifc 201 (.agg [.str (wd w),.str (wd f),.str (wd t)])
  | .bound w n m=>.ifc 203 (.agg [.str (wd w),.int .i64 n,.bool m])
  | .pack p w=>.ifc 205 (.agg [.int .i64 p,.str (wd w)])
  | .move p s=>.ifc 207 (.agg [.int .i64 p,.int .i64 s])
  | .claim w n=>.ifc 209 (.agg [.str (wd w),.int .i64 n])
  | .free w=>.ifc 211 (.agg [.str (wd w)])
theorem told_c {h:AHeap} {v:AV} {l:List Str} {n:Int} (hv:WRow h v l) (hl:l.length=(OM (l.getD 0 [])).length+1) (hf:OM (l.getD 0 [])≠[]):ACalls Go.Proofs.Tryz.prog 109 [v,.int .i64 n] h (fun q h'=>q=KM (Qn l n)∧h=h'):=by
 refine OL 82 [.tmp 4] Go.Proofs.Tryz.func109 rfl aD rfl rfl (Nat.le_of_ble_eq_true rfl) ?_;show KA _ 82 _ _ [(0,v),(1,.int .i64 n)] _;refine Oa [0,1] ?_;refine bt ?_;have hl1 : 2≤l.length:=by
  have:=List.length_pos_iff.2 hf;omega
 refine Oh ?_;refine Ow hv (j:=0) rfl aC ?_;intro p6 hp6;refine OY hp6 hv aC ?_;refine Ot [0,1,7] ?_;refine Oz ?_;refine Oa [0,1,7,8] ?_;refine Om ?_ ?_
 ·intro c8;refine Oc ?_;refine Ow hv (j:=1) rfl aC ?_;intro p11 hp11;refine OY hp11 hv aC ?_;refine b9 ?_;unfold Qn;simp only[OV,O4,OJ,OO,OP,OT,OS,OQ,OR,OI]
  exact bO
 ·intro c8;refine Oa [0,1,7,15] ?_;refine Om ?_ ?_
  ·intro c15;refine bY ?_;have hl3:l.length=4:=by rw[hl,show l.getD 0 []=O4 from c15]; rfl
   refine Oh ?_;refine Ow hv (j:=1) rfl aC ?_;intro p18 hp18;refine OY hp18 hv aC ?_;refine Oh ?_;refine Ow hv (j:=2) rfl aC ?_;intro p21 hp21;refine OY hp21 hv aC ?_;refine Oh ?_;refine Ow hv (j:=3) rfl aC ?_;intro p24 hp24;refine OY hp24 hv aC ?_;refine Kt (zs:=[.str ⟨#[]⟩,.str ⟨#[]⟩,.str ⟨#[]⟩]) (cs:=[_,_,_]) aE aN aE (.cons (off:=0) (s:=1) aE (AV.cells_one aH) rfl aD (.cons (off:=1) (s:=1) aE (AV.cells_one aH) rfl aD (.cons (off:=2) (s:=1) aE (AV.cells_one aH) rfl aD .nil))) aN ?_;refine Kz aE ?_;refine bW ?_;refine⟨?_,rfl⟩;unfold Qn;simp only[OV,O4,OJ,OO,OP,OT,OS,OQ,OR,OI]
   exact bO
  ·intro c15;refine Oa [0,1,7,28] ?_;refine Om ?_ ?_
   ·intro c28;refine Oy ?_;refine Od ?_;refine Om ?_ ?_
    ·intro c28;refine cT ?_;refine Ow hv (j:=1) rfl aC ?_;intro p32 hp32;refine OY hp32 hv aC ?_;refine Oc ?_;refine Ow hv (j:=0) rfl aC ?_;intro p36 hp36;refine bx ?_;unfold Qn;simp only[OV,O4,OJ,OO,OP,OT,OS,OQ,OR,OI]
     exact bO
    ·intro c28;refine Oa [0,1,7,41] ?_;refine Om ?_ ?_
     ·intro c41;refine Ox ?_;have hl2:l.length=3:=by rw[hl,show l.getD 0 []=OP from c41]; rfl
      refine Oc ?_;refine Ow hv (j:=2) rfl aC ?_;intro p45 hp45;refine cH ?_;unfold Qn;simp only[OV,O4,OJ,OO,OP,OT,OS,OQ,OR,OI]
      exact bO
     ·intro c41;refine Oa [0,1,7,49] ?_;refine Om ?_ ?_
      ·intro c49;refine bR ?_;unfold Qn;simp only[OV,O4,OJ,OO,OP,OT,OS,OQ,OR,OI]
       exact bO
      ·intro c49;refine Oa [0,1,7,54] ?_;refine Om ?_ ?_
       ·intro c54;refine bR ?_;unfold Qn;simp only[OV,O4,OJ,OO,OP,OT,OS,OQ,OR,OI]
        exact bO
       ·intro c54;refine Oa [0,1,7,59] ?_;refine Om ?_ ?_
        ·intro c59;refine bR ?_;unfold Qn;simp only[OV,O4,OJ,OO,OP,OT,OS,OQ,OR,OI]
         exact bO
        ·intro c59;refine Oa [0,1,7,64] ?_;refine Om ?_ ?_
         ·intro c64;refine bR ?_;unfold Qn;simp only[OV,O4,OJ,OO,OP,OT,OS,OQ,OR,OI]
          exact bO
         ·intro c64;refine Oa [0,1,69] ?_;refine Om ?_ ?_
          ·intro c69;refine Oc ?_;refine Ow hv (j:=1) rfl aC ?_;intro p72 hp72;refine OY hp72 hv aC ?_;refine Oh ?_;refine bw ?_;refine Kz aE ?_;refine bW ?_;refine⟨?_,rfl⟩;unfold Qn;simp only[OV,O4,OJ,OO,OP,OT,OS,OQ,OR,OI]
           exact bO
          ·intro c69;refine bz ?_;refine Oq [0] ?_;refine Oc ?_;refine Ow hv (j:=1) rfl aC ?_;intro p78 hp78;refine OY hp78 hv aC ?_;refine b9 ?_;unfold Qn;simp only[OV,O4,OJ,OO,OP,OT,OS,OQ,OR,OI]
           exact bO
   ·intro c28;refine Oa [0,1,7,28] ?_;refine Om ?_ ?_
    ·intro c28;refine cT ?_;refine Ow hv (j:=1) rfl aC ?_;intro p32 hp32;refine OY hp32 hv aC ?_;refine Oc ?_;refine Ow hv (j:=0) rfl aC ?_;intro p36 hp36;refine bx ?_;unfold Qn;simp only[OV,O4,OJ,OO,OP,OT,OS,OQ,OR,OI]
     exact bO
    ·intro c28;refine Oa [0,1,7,41] ?_;refine Om ?_ ?_
     ·intro c41;refine Ox ?_;have hl2:l.length=3:=by rw[hl,show l.getD 0 []=OP from c41]; rfl
      refine Oc ?_;refine Ow hv (j:=2) rfl aC ?_;intro p45 hp45;refine cH ?_;unfold Qn;simp only[OV,O4,OJ,OO,OP,OT,OS,OQ,OR,OI]
      exact bO
     ·intro c41;refine Oa [0,1,7,49] ?_;refine Om ?_ ?_
      ·intro c49;refine bR ?_;unfold Qn;simp only[OV,O4,OJ,OO,OP,OT,OS,OQ,OR,OI]
       exact bO
      ·intro c49;refine Oa [0,1,7,54] ?_;refine Om ?_ ?_
       ·intro c54;refine bR ?_;unfold Qn;simp only[OV,O4,OJ,OO,OP,OT,OS,OQ,OR,OI]
        exact bO
       ·intro c54;refine Oa [0,1,7,59] ?_;refine Om ?_ ?_
        ·intro c59;refine bR ?_;unfold Qn;simp only[OV,O4,OJ,OO,OP,OT,OS,OQ,OR,OI]
         exact bO
        ·intro c59;refine Oa [0,1,7,64] ?_;refine Om ?_ ?_
         ·intro c64;refine bR ?_;unfold Qn;simp only[OV,O4,OJ,OO,OP,OT,OS,OQ,OR,OI]
          exact bO
         ·intro c64;refine Oa [0,1,69] ?_;refine Om ?_ ?_
          ·intro c69;refine Oc ?_;refine Ow hv (j:=1) rfl aC ?_;intro p72 hp72;refine OY hp72 hv aC ?_;refine Oh ?_;refine bw ?_;refine Kz aE ?_;refine bW ?_;refine⟨?_,rfl⟩;unfold Qn;simp only[OV,O4,OJ,OO,OP,OT,OS,OQ,OR,OI]
           exact bO
          ·intro c69;refine bz ?_;refine Oq [0] ?_;refine Oc ?_;refine Ow hv (j:=1) rfl aC ?_;intro p78 hp78;refine OY hp78 hv aC ?_;refine b9 ?_;unfold Qn;simp only[OV,O4,OJ,OO,OP,OT,OS,OQ,OR,OI]
           exact bO
end Go.Am
