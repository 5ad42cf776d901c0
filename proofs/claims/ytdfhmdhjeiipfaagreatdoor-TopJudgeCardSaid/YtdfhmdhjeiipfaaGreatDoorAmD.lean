/-
  The abstract machine: the fast interpreter.
  Conditions: none.
-/
import Derived.Test.YtdfhmdhjeiipfaaGreatDoorAmB
namespace Go.Am
noncomputable def nthR {α:Type} (l:List α):Nat→Option α:=
  List.rec (motive:=fun _=>Nat→Option α) (fun _=>none) (fun x _ ih n=>Nat.rec (motive:=fun _=>Option α) (some x) (fun m _=>ih m) n) l
theorem UF {α : Type} : ∀ (l : List α) (n : Nat), nthR l n = l[n]?
  | [],n=>rfl
  | x::xs,0=>rfl
  | x::xs,n+1=>by show nthR xs n=_; rw[UF xs n]; rfl
noncomputable def Jr (h:AHeap) (b:Nat):Option Blk:=nthR h.blks b
noncomputable def famR (h:AHeap) (F:Nat):Option Fam:=nthR h.fams F
theorem XZ (h:AHeap) (b:Nat):Jr h b=h.get b:=UF _ _
theorem RB (h:AHeap) (b:Nat):famR h b=h.fam b:=UF _ _
noncomputable def VE (h:AHeap) (b:Nat):Bool:=match Jr h b with
  | some (.cells none _ _)=>true
  | some (.cells (some F) _ _)=>match famR h F with|some f=>f.sees b|none=>false
  | some (.obj _ _)=>true
  | none=>false
theorem YR (h:AHeap) (b:Nat):VE h b=h.valid b:=by unfold VE AHeap.valid; simp only[XZ,RB]; rfl
noncomputable def JQ (P:Program) (h:AHeap) (t:TypeId) (x:AV):Option AV:=
  match x with
  | .ptr b o=>match Jr h b with
    | some (.cells _ _ cs) => if VE h b then (do
        let g←Jf P t
        if g then (do let s←szA P t; if o+s≤cs.length then some (.agg ((cs.drop o).take s)) else none) else nthR cs o) else none
    | _=>none
  | _=>none
theorem JR (P:Program) (h:AHeap) (t:TypeId) (x:AV):JQ P h t x=K9 P h t x:=by unfold JQ K9; simp only[XZ,YR,UF]; rfl
noncomputable def areadB (P:Program) (h:AHeap) (ρ:Operand→AV) (op:Op):Option AV:=
  match op with
  | .load t x=>JQ P h t (ρ x)
  | op=>areadR P h ρ op
theorem areadB_eq (P:Program) (h:AHeap) (ρ:Operand→AV) (op:Op):areadB P h ρ op=areadR P h ρ op:=by
 cases op <;> first|rfl|exact JR _ _ _ _
noncomputable def Up (h : AHeap) (s : Nat) : AV → Option (Nat × List AV)
  | .slc b o n s' _=>if s'=s then
      (if n=0 then some (0,[]) else match Jr h b with
        | some (.cells _ _ cs)=>if VE h b=true∧o+n*s≤cs.length then some (n,(cs.drop o).take (n*s)) else none
        | _=>none) else none
  | .nils=>some (0,[])
  | _=>none
theorem acellsR_eq (h:AHeap) (s:Nat) (x:AV):Up h s x=Q0 h s x:=by unfold Up Q0; simp only[XZ,YR]; rfl
noncomputable def Rx (P:Program) (h:AHeap) (t:TypeId) (x y:AV):Option (AV × AHeap):=
  match x with
  | .ptr b o=>match Jr h b with
    | some (.cells (some F) p cs) => do
      let f←famR h F
      let l←y.cells?
      let s←szA P t
      if VE h b=true∧l.length=s∧o+l.length≤cs.length then
        some (.tup [],(h.set b (.cells (some F) p (putL cs o l))).setFam F {f with live:=some [b]})
      else none
    | _=>none
  | _=>none
theorem astoreR_eq (P:Program) (h:AHeap) (t:TypeId) (x y:AV):Rx P h t x y=Z3 P h t x y:=by unfold Rx Z3; simp only[XZ,YR,RB]; rfl
noncomputable def U7 (P : Program) (kill : Bool) (h : AHeap) (t : TypeId) (x y : AV) : Option (AV × AHeap) := do
  let e←ZX P t
  let s←szA P e
  let z←Qf P e
  let zs←z.cells?
  let i←P.info? e
  let(n,olds)←Up h s x
  let(m,news)←Up h s y
  if m=0 then some (x,h)
  else if zs.length=s∧news.all AV.one=true∧n+m≤9223372036854775807∧(n+m)*i.bytes≤140737488355328 then
    match x with
    | .nils=>some (.slc h.next 0 m s false,h.alloc news)
    | .slc _ _ _ _ true=>some (.slc h.next 0 (n+m) s false,h.alloc (olds ++ news))
    | .slc b o _ _ false=>match Jr h b with
      | some (.cells (some F) p _) => do
        let f←famR h F
        if p+o+n*s=f.ext then
          some (.slc h.next 0 (n+m) s false,(h.push (.cells (some F) (p+o) (olds ++ news))).setFam F ⟨f.ext+m*s,f.live.map (h.next :: ·)⟩)
        else if kill=true then
          some (.slc h.next 0 (n+m) s false,(h.push (.cells (some F) (p+o) (olds ++ news))).setFam F ⟨max f.ext (p+o+(n+m)*s),some [h.next]⟩)
        else none
      | _=>none
    | _=>none
  else none
theorem ST (P:Program) (kill:Bool) (h:AHeap) (t:TypeId) (x y:AV):U7 P kill h t x y=Xx P kill h t x y:=by
 unfold U7 Xx; simp only[XZ,RB,acellsR_eq]; rfl
noncomputable def Uq (P:Program) (kill:Bool) (h:AHeap) (ρ:Operand→AV) (op:Op):Option (AV × AHeap):=
  match op with
  | .store t x y=>Rx P h t (ρ x) (ρ y)
  | .call {callee:=.builtin .append,args,argTypes}=>match args.toList,argTypes.toList with
    | [x,y],[t,t']=>if t=t' then U7 P kill h t (ρ x) (ρ y) else Yk P h t t' (ρ x) (ρ y)
    | _,_=>none
  | op=>Zo P kill h ρ op
theorem Ws (P:Program) (kill:Bool) (h:AHeap) (ρ:Operand→AV) (op:Op):Uq P kill h ρ op=Zo P kill h ρ op:=by
 unfold Uq;split;simp only[Zo,astoreR_eq];simp only[Zo,ST]; rfl;rfl
noncomputable def seqAtR {β:Type} (l:List Blk):Nat→(List Blk→β)→β:=
  List.rec (motive := fun _ => Nat → (List Blk → β) → β) (fun _ k => k [])
    (fun B Bs ih n k=>Nat.rec (motive:=fun _=>β) (Ui B fun B=>k (B::Bs)) (fun m _=>ih m fun Bs=>k (B::Bs)) n) l
theorem seqAtR_eq {β:Type}:∀ (l:List Blk) (n:Nat) (k:List Blk→β),seqAtR l n k=k l:=by
 intro l
 induction l with
 | nil=>intro n k; rfl
 | cons B Bs ih=>
  intro n k
  cases n with
  | zero=>show Ui B (fun B=>k (B::Bs))=_; rw[seqBlk_eq]
  | succ n=>show seqAtR Bs n (fun Bs=>k (B::Bs))=_; rw[ih]
noncomputable def Yt {β:Type} (h:AHeap) (b:Nat) (k:AHeap→β) : β:=match h with
  | ⟨bs,fs,gs⟩=>seqAtR bs b fun bs=>Wn Uj fs fun fs=>k ⟨bs,fs,gs⟩
theorem YI {β:Type} (h:AHeap) (b:Nat) (k:AHeap→β):Yt h b k=k h:=by
 cases h with|mk bs fs gs=>simp[Yt,seqAtR_eq,Pp Uj seqFam_eq]
theorem blt_of {t:Nat} (h:t<4095):Nat.blt t 4095=true:=by simp[Nat.blt]; omega
theorem of_blt {t:Nat} (h:Nat.blt t 4095=true):t<4095:=by simp[Nat.blt] at h; omega
noncomputable def XB (globs : List Nat) (tr : Tr) : Operand → AV
  | .tmp t=>bif Nat.blt t 4095 then tr.getV (path t) else .bot
  | .const v=>AV.of 4 v
  | .global g=>if globs.contains g then .ptr g 0 else .bot
  | .func f=>.fn f []
theorem Yo {tr:Tr} {fr:List AV} (r:Rep tr fr) (globs:List Nat):XB globs tr=evalA globs fr:=by
 funext x
 cases x with
 | tmp t=>
  simp only[XB,evalA]
  cases hb:Nat.blt t 4095 with
  | true=>rw[cond_true,r.get t (of_blt hb)]
  | false=>
   have ht:¬ (show Nat from t)<4095:=fun h=>by rw[blt_of h] at hb; cases hb
   have hlen:=r.1;have hno:fr[t]? = none:=List.getElem?_eq_none (by change fr.length≤(show Nat from t); omega);rw[cond_false,List.getD_eq_getElem?_getD,hno];rfl
 | const v=>rfl
 | global g=>rfl
 | func f=>rfl
noncomputable def WO (ops:Array Oper) (tr:Tr) (j:Nat):Option (Option Bool):=
  match (ops[j]?).bind (·.dst) with
  | some d=>match XB [] tr (.tmp d) with | .bool b=>some (some b) | .tup _=>some none|_=>none
  | none=>none
theorem guardT_eq {tr:Tr} {fr:List AV} (r:Rep tr fr) (ops:Array Oper) (j:Nat):WO ops tr j=guardA ops fr j:=by
 unfold WO guardA; rw[Yo r]; rfl
noncomputable def astepB (P:Program) (kill:Bool) (call:FuncId→List AV→AHeap→Option (AV × AHeap)) (h:AHeap) (ρ:Operand→AV) (o:Oper):Option (AV × AHeap):=
  match clsOf o.op with
  | .pure=>match apure P ρ o.op with|some v=>some (v,h)|none=>none
  | .read=>match areadB P h ρ o.op with|some v=>some (v,h)|none=>none
  | .allo=>match aallo P ρ o.op with|some (mk,cs)=>Yt (h.alloc cs) h.next fun h'=>some (mk.val h.next,h')|none=>none
  | .chain=>match o.op with
    | .call {callee:=.value g,args,..}=>match ρ g with
      | .fn f caps=>call f (args.toList.map ρ ++ caps) h
      | _=>none
    | op=>match Uq P kill h ρ op with
      | some (v,h')=>Yt h' (RU h ρ op) fun h'=>some (v,h')
      | none=>none
noncomputable def putT {β:Type} (tr:Tr) (dst:Option Tmp) (v:AV) (k:Tr→β) : β:=match dst with
  | some d=>XQ 3 v fun v=>Tr.setK v (path d) tr k
  | none=>k tr
noncomputable def aopsB (P : Program) (kill : Bool) (call : FuncId → List AV → AHeap → Option (AV × AHeap)) (ops : Array Oper) : List Oper → Tr → AHeap → Option (Tr × AHeap)
  | [],tr,h=>some (tr,h)
  | o::os,tr,h=>
    match (match o.guard with|none=>some true|some (j,want)=>(WO ops tr j).map (· == some want)) with
    | some true=>match astepB P kill call h (XB h.globs tr) o with
      | some (v,h')=>putT tr o.dst v fun tr'=>aopsB P kill call ops os tr' h'
      | none=>none
    | some false=>putT tr o.dst (.tup []) fun tr'=>aopsB P kill call ops os tr' h
    | none=>none
def Vi (o:Oper):Bool:=match o.dst with|some d=>Nat.blt d 4095|none=>true
noncomputable def resT (tr : Tr) : List ResultVar → Option (List AV)
  | []=>some []
  | .tmp t::rs=>(resT tr rs).map fun l=>XB [] tr (.tmp t)::l
  | .cell _ _::_=>none
noncomputable def Yu (tr : Tr) : List AV → Nat → Tr
  | [],_=>tr
  | a::as,i=>Yu (tr.set a (path i)) as (i+1)
noncomputable def Ww {β : Type} : List AV → Nat → Tr → (Tr → β) → β
  | [],_,tr,k=>k tr
  | a::as,i,tr,k=>XQ 3 a fun a=>Tr.setK a (path i) tr fun tr=>Ww as (i+1) tr k
theorem TX {β : Type} : ∀ (as : List AV) (i : Nat) (tr : Tr) (k : Tr → β), Ww as i tr k = k (Yu tr as i)
  | [],_,_,_=>rfl
  | a::as,i,tr,k=>by simp only[Ww,Yu,JE,Tr.setK_eq]; exact TX as (i+1) _ k
theorem U3 : ∀ (as : List AV) (i : Nat) (tr : Tr) (pre post : List AV), Rep tr (pre ++ post) → pre.length = i → as.length ≤ post.length → i + as.length ≤ 2000 → Rep (Yu tr as i) (pre ++ as ++ post.drop as.length)
  | [],i,tr,pre,post,r,_,_,_=>by simpa [Yu] using r
  | a::as,i,tr,pre,post,r,hi,hl,h2=>by
    cases post with
    | nil=>simp at hl
    | cons p post=>
      simp only[Yu];simp only[List.length_cons] at hl h2;have r':=r.set i aA a;have e:(pre ++ p::post).set i a=(pre ++ [a]) ++ post:=by
        subst hi;simp
      rw[e] at r';have:=U3 as (i+1) (tr.set a (path i)) (pre ++ [a]) post r' aY aA aA;simpa using this
noncomputable def bcall (P:Program) (ok:FuncId→Bool) (run:Code→Tr→AHeap→Option (Ex × Tr × AHeap)) (f:FuncId) (args:List AV) (h:AHeap):Option (AV × AHeap):=
  if ok f then
    match P.funcs[f]? with
    | some fn=>match fn.body with
      | some c=>if args.length≤fn.ntmps∧fn.ntmps≤2000 then
          Ww args 0 (Tr.blank fn.ntmps 12 1 0) fun tr=>match run c tr h with
          | some (.normal,tr,h')=>match resT tr fn.results.toList with|some [x]=>some (x,h')|some l=>some (.tup l,h')|none=>none
          | some (.ret,tr,h')=>match resT tr fn.results.toList with|some [x]=>some (x,h')|some l=>some (.tup l,h')|none=>none
          | _=>none
        else none
      | none=>none
    | none=>none
  else none
noncomputable def Jk (P : Program) (ok : FuncId → Bool) : Nat → Code → Tr → AHeap → Option (Ex × Tr × AHeap)
  | 0,_,_,_=>none
  | n+1,c,tr,h=>match c with
    | .skip=>some (.normal,tr,h)
    | .label _=>some (.normal,tr,h)
    | .ret=>some (.ret,tr,h)
    | .exit id=>some (.exit id,tr,h)
    | .seq a b=>match Jk P ok n a tr h with
      | some (.normal,tr',h')=>Jk P ok n b tr' h'
      | r=>r
    | .cond c a b=>match XB h.globs tr c with
      | .bool true=>Jk P ok n a tr h
      | .bool false=>Jk P ok n b tr h
      | _=>none
    | .block id b=>match Jk P ok n b tr h with
      | some (.exit id',tr',h')=>if id'=id then some (.normal,tr',h') else some (.exit id',tr',h')
      | r=>r
    | .loop b=>match Jk P ok n b tr h with
      | some (.normal,tr',h')=>Jk P ok n (.loop b) tr' h'
      | r=>r
    | .region _ ops draw=>match aopsB P (!draw) (bcall P ok (Jk P ok n)) ops ops.toList tr h with
      | some (tr',h')=>some (.normal,tr',h')
      | none=>none
    | _=>none
def Xm : Code → Bool
  | .seq a b=>Xm a && Xm b
  | .cond _ a b=>Xm a && Xm b
  | .block _ b=>Xm b
  | .loop b=>Xm b
  | .region _ ops _=>ops.toList.all Vi
  | _=>true
def smallFn (P:Program) (f:FuncId):Bool:=match P.funcs[f]? with
  | some fn=>match fn.body with|some c=>Xm c|none=>true
  | none=>true
end Go.Am
namespace Go.Am
open Go.RowKit
def h00:AHeap:=⟨[],[],[]⟩
def φ00:Emb:=fun _=>none
theorem h00_get (b:Nat):h00.get b=none:=rfl
theorem HRel.empty (w:World):HRel φ00 h00 w:=by
 refine⟨?_,?_,?_,?_,?_,?_,?_,?_⟩;intro g hg; cases hg;intro b k i z h; cases h;intro b k i z B h; cases h;intro b k i z F p cs h; cases h;intro b b' k i i' z z' F F' p p' cs cs' h; cases h;intro b b' k i i' z z' F p p' cs cs' h; cases h;intro b b' k i i' z z' F0 x0 B h; cases h;intro b F p cs h; rw[h00_get] at h; cases h
theorem Trans.below {φ':Emb} {h':AHeap} {w w':World} (t:Trans φ00 h00 w φ' h' w'):Below w.heap.size w w':=by
 refine⟨t.os,t.tape,t.output,t.size,?_⟩;intro k hk;refine t.frame k hk ?_;rintro⟨b,i,z,hb,_⟩;cases hb
theorem Ev.closed {P : Program} {f : FuncId} {args : List AV} {cs : List Value} {b : Bool} {h1 : AHeap} (he : Ev P f args h00 (.bool b) h1) (ha : VRels φ00 args cs) (w : World) :
    Calls P f cs.toArray w fun e w'=>e = .returned (.bool b)∧Below w.heap.size w w':=by
 refine(he.2.2 φ00 w cs (fun _ _ _=>rfl) (HRel.empty w) ha).mono ?_;rintro e w' ⟨v,φ',rfl,t,_,hv⟩;cases hv;exact⟨rfl,t.below⟩
noncomputable def okB (P:Program) (f:FuncId):Bool:=okFn P f && smallFn P f
def isB (b : Bool) : Option (AV × AHeap) → Bool
  | some (.bool c,_)=>b == c
  | _=>false
noncomputable def runs (P:Program) (n:Nat) (f:FuncId) (args:List AV) (b:Bool):Bool:=isB b (bcall P (okB P) (Jk P (okB P) n) f args h00)
theorem Ev.beside {P:Program} {f:FuncId} {b:Bool} {h1:AHeap} (he:Ev P f [] h00 (.bool b) h1) (h:AHeap):Ev P f [] h (.bool b) h:=by
 refine⟨he.1,HGrow.refl h,?_⟩;intro φ w cs _ r ha;have hcs:cs = []:=List.eq_nil_of_length_eq_zero ha.1.symm;subst hcs;refine(he.closed (cs:=[]) ⟨rfl,by simp⟩ w).mono ?_;rintro e w' ⟨rfl,bel⟩;have hk:∀ k,k<w.heap.size→w'.heap[k]? = w.heap[k]?:=fun k hk=>bel.block k hk
 refine⟨.bool b,φ,rfl,⟨Emb.le_refl φ,fun b h1 h2=>by omega,fun b p h1 h2=>aq,fun b k i z h1 h2=>aq,fun k hk' _=>hk k hk',bel.os,bel.tape,bel.output,bel.size⟩,?_,.bool b⟩;refine⟨r.glob,fun b k i z hb=>Nat.lt_of_lt_of_le (r.lt b k i z hb) bel.size,?_,?_,r.one,r.sep,r.map,r.ext⟩;intro b k i z B hb hB hv;exact(r.blk b k i z B hb hB hv).world (hk k (r.lt b k i z hb));intro b k i z F p cs hb hB;obtain⟨c,e,h2,h3⟩:=r.arr b k i z F p cs hb hB;exact⟨c,e,h2.old (hk k (r.lt b k i z hb)),h3⟩
end Go.Am
