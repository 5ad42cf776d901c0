/-
  Tops: turned from layer 14: Cd.
  Conditions: none.
-/
import Derived.Test.YtdfhmdhjeiipfaaGreatDoorQBc
set_option maxRecDepth 99999
set_option maxHeartbeats 4000000
namespace Go.Am
def UB (l:Str):Bool:=decide (l.length≤12) && l.all fun c=>decide (97≤c.toNat∧c.toNat≤122)
theorem abc_mem (c:UInt8):c∈abc↔97≤c.toNat∧c.toNat≤122:=by
 have key:∀ n:Fin 256,(UInt8.ofNat n.val∈abc)↔(97≤n.val∧n.val≤122):=by decide +kernel
 have:=key ⟨c.toNat,c.toNat_lt⟩;simpa using this
theorem Tz (l:Str):decide (Lib.trimS l abc = [])=l.all fun c=>decide (97≤c.toNat∧c.toNat≤122):=by
 rw[Bool.eq_iff_iff,decide_eq_true_iff,trim_nil,List.all_eq_true];constructor;intro h c hc; exact decide_eq_true ((abc_mem c).1 (h c hc));intro h c hc; exact(abc_mem c).2 (of_decide_eq_true (h c hc))
theorem named_c {h:AHeap} {l:Str} (hl:l.length≤1000000):ACalls Go.Proofs.Tryz.prog 140 [.str (wdQ l)] h (fun q h'=>q = .bool (UB l)∧h=h'):=by
 refine OK 11 [.tmp 2] Go.Proofs.Tryz.func140 rfl aE rfl rfl (Nat.le_of_ble_eq_true rfl) ?_;show KA _ 11 _ _ [(0,.str (wdQ l))] _;refine Oa [0] ?_;refine Oc ?_;refine Ov (dj:=6) rfl rfl true false rfl ?_ ?_
 ·intro g6;have g6:=of_decide_eq_true g6;refine Oc ?_;refine Oo rfl (trim_c hl) ?_;rintro _ _ ⟨rfl,rfl⟩;refine bY ?_;refine cU ?_;unfold UB
  exact bP
 ·intro g6;have g6:=of_decide_eq_false g6;refine bY ?_;refine cU ?_;unfold UB
  exact bP
def KL : Tell → AV
  | .room r=>.ifc 257 (.agg [.str (wdQ r)])
  | .way w f t=>.ifc 259 (.agg [.str (wdQ w),.str (wdQ f),.str (wdQ t)])
  | .bound w n m=>.ifc 261 (.agg [.str (wdQ w),.int .i64 n,.bool m])
  | .pack p w=>.ifc 263 (.agg [.int .i64 p,.str (wdQ w)])
  | .move p s=>.ifc 265 (.agg [.int .i64 p,.int .i64 s])
  | .claim w n=>.ifc 267 (.agg [.str (wdQ w),.int .i64 n])
  | .free w=>.ifc 269 (.agg [.str (wdQ w)])
theorem told_c {h:AHeap} {v:AV} {l:List Str} {n:Int} (hv:WRowQ h v l) (hl:l.length=(O3 (l.getD 0 [])).length+1) (hf:O3 (l.getD 0 [])≠[]):ACalls Go.Proofs.Tryz.prog 141 [v,.int .i64 n] h (fun q h'=>q=KL (Qp l n)∧h=h'):=by
 refine OK 82 [.tmp 4] Go.Proofs.Tryz.func141 rfl aE rfl rfl (Nat.le_of_ble_eq_true rfl) ?_;show KA _ 82 _ _ [(0,v),(1,.int .i64 n)] _;refine Oa [0,1] ?_;refine bt ?_;have hl1 : 2≤l.length:=by
  have:=List.length_pos_iff.2 hf;omega
 refine Oe ?_;refine Oy hv (j:=0) rfl aC ?_;intro p6 hp6;refine KO hp6 hv aC ?_;refine Oj [0,1,7] ?_;refine Oz ?_;refine Oa [0,1,7,8] ?_;refine On ?_ ?_
 ·intro c8;refine Oc ?_;refine Oy hv (j:=1) rfl aC ?_;intro p11 hp11;refine KO hp11 hv aC ?_;refine cJ ?_;unfold Qp;simp only[OY,Ka,OO,OT,OU,OZ,OX,OV,OW,ON]
  exact bQ
 ·intro c8;refine Oa [0,1,7,15] ?_;refine On ?_ ?_
  ·intro c15;refine bZ ?_;have hl3:l.length=4:=by rw[hl,show l.getD 0 []=Ka from c15]; rfl
   refine Oe ?_;refine Oy hv (j:=1) rfl aC ?_;intro p18 hp18;refine KO hp18 hv aC ?_;refine Oe ?_;refine Oy hv (j:=2) rfl aC ?_;intro p21 hp21;refine KO hp21 hv aC ?_;refine Oe ?_;refine Oy hv (j:=3) rfl aC ?_;intro p24 hp24;refine KO hp24 hv aC ?_;refine OP (zs:=[.str ⟨#[]⟩,.str ⟨#[]⟩,.str ⟨#[]⟩]) (cs:=[_,_,_]) aB aI aB (.cons (off:=0) (s:=1) aB (AV.cells_one aG) rfl aE (.cons (off:=1) (s:=1) aB (AV.cells_one aG) rfl aE (.cons (off:=2) (s:=1) aB (AV.cells_one aG) rfl aE .nil))) aI ?_;refine Kq aB ?_;refine ba ?_;refine⟨?_,rfl⟩;unfold Qp;simp only[OY,Ka,OO,OT,OU,OZ,OX,OV,OW,ON]
   exact bQ
  ·intro c15;refine Oa [0,1,7,28] ?_;refine On ?_ ?_
   ·intro c28;refine OC ?_;refine Od ?_;refine On ?_ ?_
    ·intro c28;refine cV ?_;refine Oy hv (j:=1) rfl aC ?_;intro p32 hp32;refine KO hp32 hv aC ?_;refine Oc ?_;refine Oy hv (j:=0) rfl aC ?_;intro p36 hp36;refine cF ?_;unfold Qp;simp only[OY,Ka,OO,OT,OU,OZ,OX,OV,OW,ON]
     exact bQ
    ·intro c28;refine Oa [0,1,7,41] ?_;refine On ?_ ?_
     ·intro c41;refine Ot ?_;have hl2:l.length=3:=by rw[hl,show l.getD 0 []=OU from c41]; rfl
      refine Oc ?_;refine Oy hv (j:=2) rfl aC ?_;intro p45 hp45;refine cT ?_;unfold Qp;simp only[OY,Ka,OO,OT,OU,OZ,OX,OV,OW,ON]
      exact bQ
     ·intro c41;refine Oa [0,1,7,49] ?_;refine On ?_ ?_
      ·intro c49;refine bT ?_;unfold Qp;simp only[OY,Ka,OO,OT,OU,OZ,OX,OV,OW,ON]
       exact bQ
      ·intro c49;refine Oa [0,1,7,54] ?_;refine On ?_ ?_
       ·intro c54;refine bT ?_;unfold Qp;simp only[OY,Ka,OO,OT,OU,OZ,OX,OV,OW,ON]
        exact bQ
       ·intro c54;refine Oa [0,1,7,59] ?_;refine On ?_ ?_
        ·intro c59;refine bT ?_;unfold Qp;simp only[OY,Ka,OO,OT,OU,OZ,OX,OV,OW,ON]
         exact bQ
        ·intro c59;refine Oa [0,1,7,64] ?_;refine On ?_ ?_
         ·intro c64;refine bT ?_;unfold Qp;simp only[OY,Ka,OO,OT,OU,OZ,OX,OV,OW,ON]
          exact bQ
         ·intro c64;refine Oa [0,1,69] ?_;refine On ?_ ?_
          ·intro c69;refine Oc ?_;refine Oy hv (j:=1) rfl aC ?_;intro p72 hp72;refine KO hp72 hv aC ?_;refine Oe ?_;refine cE ?_;refine Kq aB ?_;refine ba ?_;refine⟨?_,rfl⟩;unfold Qp;simp only[OY,Ka,OO,OT,OU,OZ,OX,OV,OW,ON]
           exact bQ
          ·intro c69;refine bd ?_;refine Ow [0] ?_;refine Oc ?_;refine Oy hv (j:=1) rfl aC ?_;intro p78 hp78;refine KO hp78 hv aC ?_;refine cJ ?_;unfold Qp;simp only[OY,Ka,OO,OT,OU,OZ,OX,OV,OW,ON]
           exact bQ
   ·intro c28;refine Oa [0,1,7,28] ?_;refine On ?_ ?_
    ·intro c28;refine cV ?_;refine Oy hv (j:=1) rfl aC ?_;intro p32 hp32;refine KO hp32 hv aC ?_;refine Oc ?_;refine Oy hv (j:=0) rfl aC ?_;intro p36 hp36;refine cF ?_;unfold Qp;simp only[OY,Ka,OO,OT,OU,OZ,OX,OV,OW,ON]
     exact bQ
    ·intro c28;refine Oa [0,1,7,41] ?_;refine On ?_ ?_
     ·intro c41;refine Ot ?_;have hl2:l.length=3:=by rw[hl,show l.getD 0 []=OU from c41]; rfl
      refine Oc ?_;refine Oy hv (j:=2) rfl aC ?_;intro p45 hp45;refine cT ?_;unfold Qp;simp only[OY,Ka,OO,OT,OU,OZ,OX,OV,OW,ON]
      exact bQ
     ·intro c41;refine Oa [0,1,7,49] ?_;refine On ?_ ?_
      ·intro c49;refine bT ?_;unfold Qp;simp only[OY,Ka,OO,OT,OU,OZ,OX,OV,OW,ON]
       exact bQ
      ·intro c49;refine Oa [0,1,7,54] ?_;refine On ?_ ?_
       ·intro c54;refine bT ?_;unfold Qp;simp only[OY,Ka,OO,OT,OU,OZ,OX,OV,OW,ON]
        exact bQ
       ·intro c54;refine Oa [0,1,7,59] ?_;refine On ?_ ?_
        ·intro c59;refine bT ?_;unfold Qp;simp only[OY,Ka,OO,OT,OU,OZ,OX,OV,OW,ON]
         exact bQ
        ·intro c59;refine Oa [0,1,7,64] ?_;refine On ?_ ?_
         ·intro c64;refine bT ?_;unfold Qp;simp only[OY,Ka,OO,OT,OU,OZ,OX,OV,OW,ON]
          exact bQ
         ·intro c64;refine Oa [0,1,69] ?_;refine On ?_ ?_
          ·intro c69;refine Oc ?_;refine Oy hv (j:=1) rfl aC ?_;intro p72 hp72;refine KO hp72 hv aC ?_;refine Oe ?_;refine cE ?_;refine Kq aB ?_;refine ba ?_;refine⟨?_,rfl⟩;unfold Qp;simp only[OY,Ka,OO,OT,OU,OZ,OX,OV,OW,ON]
           exact bQ
          ·intro c69;refine bd ?_;refine Ow [0] ?_;refine Oc ?_;refine Oy hv (j:=1) rfl aC ?_;intro p78 hp78;refine KO hp78 hv aC ?_;refine cJ ?_;unfold Qp;simp only[OY,Ka,OO,OT,OU,OZ,OX,OV,OW,ON]
           exact bQ
end Go.Am
