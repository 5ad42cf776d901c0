/-
  The abstract machine: calls through an interface.
  Conditions: none.
-/
import Derived.Test.YtgnogfjajnnaoaaGreatDoorAne
import Derived.Test.YtgnogfjajnnaoaaGreatDoorProg
import Derived.Test.YtgnogfjajnnaoaaGreatDoorAmC
import Derived.Test.YtgnogfjajnnaoaaGreatDoorAmM
set_option maxRecDepth 99999
set_option maxHeartbeats 4000000
namespace Go.Am
theorem Ev.stepI {P : Program} {ρ : Operand → AV} {o : Oper} {h h' : AHeap} {f : FuncId} {t : TypeId} {x r : AV} {recv : Operand} {name : String} {args : Array Operand} {tys : Array TypeId}
    (ho:o.op = .call {callee:=.invoke recv name,args:=args,argTypes:=tys}) (hg : ρ recv = .ifc t x) (hm:Xs P t name=some f) (hev:Ev P f (x::args.toList.map ρ) h r h'):SemStep P ρ o h r h':=by
  have hc:clsOf o.op = .chain:=by rw[ho]; rfl
  unfold SemStep;rw[hc];obtain⟨⟨fn,hf,hn,hb⟩,hgrow,hcalls⟩:=hev;refine⟨hgrow,?_⟩;intro φ a w K Q hfr rr hops hk;have hgv:=hops recv (by simp[ho,Op.operands,Call.operands]);rw[hg] at hgv;generalize hgc:a.eval recv=cg at hgv
  cases hgv with|ifc _ _ v hv=>
  have hmr:=methA_run hm v w;have hrun:(execOp a.eval o).run P w = .ok (.enter f ((v::args.toList.map a.eval).toArray)) w:=by
    have he:(#[a.eval recv] ++ args.map a.eval).extract 1 (#[a.eval recv] ++ args.map a.eval).size=args.map a.eval:=by
      apply Array.ext';simp only[Array.toList_extract,Array.toList_append,Array.toList_map,List.extract_eq_take_drop,List.cons_append,List.nil_append,List.drop_succ_cons,List.drop_zero,Array.size_append,Array.size_map];refine List.take_of_length_le ?_;simp
    have h0:(#[a.eval recv] ++ args.map a.eval)[0]? = some (.iface t v):=by
      rw[hgc,Array.getElem?_append_left Nat.zero_lt_one];rfl
    have hcm:(callMethod (.iface t v) name (args.map a.eval)).run P w = .ok (.enter f (#[v] ++ args.map a.eval)) w:=by
      simp only[callMethod,Sem.run_bind,run_program,Result.andThen_ok,hmr,callFunc,hf,hn,hb,Bool.false_eq_true,if_false,Sem.run_pure]
    simp only[execOp,ho,resolve,Sem.run_bind,Sem.run_pure,Result.andThen_ok,invoke,he,h0,hcm];congr 2;simp
  unfold Oper.wp;rw[hrun];refine(hcalls φ w _ hfr rr ?_).mono ?_
  · refine VRels.append (l:=[x]) (cs:=[v]) ⟨rfl,?_⟩ ⟨by simp,?_⟩
    · intro j y u hy hu
      cases j with
      | zero=>cases hy; cases hu; exact hv
      | succ j=>simp at hy
    · intro j y u hy hu;rw[List.getElem?_map,Option.map_eq_some_iff] at hy hu;obtain⟨q,hq,rfl⟩:=hy;obtain⟨q',hq',rfl⟩:=hu;rw[hq] at hq'; cases hq';refine hops q ?_;simp[ho,Op.operands,Call.operands];exact .inr (Array.mem_of_getElem? (by simpa using hq))
  · rintro e w' ⟨v,φ',rfl,t,r',hv⟩;exact hk φ' v w' t r' hv
section
variable {P:Program} {n:Nat} {ops:Array Oper} {ex:List Nat} {Q:KF→AHeap→Prop} {k:Nat} {os:List Oper} {K:KF} {h:AHeap} {d:Nat} {ty:TypeId} {pos:String} {after:Array Edge}
theorem KOps.callI {f : FuncId} {t : TypeId} {x : AV} {recv : Operand} {name : String} {l : List Operand} {vs : List AV} {tys : Array TypeId} {R : AV → AHeap → Prop} [hg : EvK h.globs n K recv (.ifc t x)] [hl : EvKs h.globs n K l vs] (hx : ex.contains k = false) (hm : Xs P t name = some f)
    (hc:ACalls P f (x::vs) h R) (hk:∀ r h',R r h'→KOps P n ops ex Q (k+1) os ((d,r)::K) h'):KOps P n ops ex Q k (⟨some d,.call {callee:=.invoke recv name,args:=List.toArray l,argTypes:=tys},ty,pos,after,none⟩::os) K h:=by
  obtain⟨r,h',hev,hR⟩:=hc;refine QT (v:=r) (h':=h') ?_ (fun hc=>by rw[hx] at hc; cases hc) (hk r h' hR);refine Ev.stepI (recv:=recv) (args:=List.toArray l) (tys:=tys) rfl hg.eq hm ?_;rw[List.toList_toArray,hl.eq];exact hev
instance instNili (globs:List Nat) (n:Nat) (K:KF):EvK globs n K (.const .nilIface) .nili:=⟨rfl⟩
theorem Kp {t:TypeId} {x:Operand} {v:AV} [hx:EvK h.globs n K x v] (hc:concA P t=true) (hk:KOps P n ops ex Q (k+1) os ((d,.ifc t v)::K) h):KOps P n ops ex Q k (⟨some d,.makeInterface t x,ty,pos,after,none⟩::os) K h:=by
 refine Kh (v:=.ifc t v) rfl ?_ hk;simp only[apure];rw[hx.eq,if_pos hc]
theorem KOps.makeFmeth {x:Operand} {v:AV} {name:String} [hx:EvK h.globs n K x v] (hk:KOps P n ops ex Q (k+1) os ((d,.fmeth name v)::K) h):KOps P n ops ex Q k (⟨some d,.makeFunc (.method name) #[x] #[],ty,pos,after,none⟩::os) K h:=by
 refine Kh (v:=.fmeth name v) rfl ?_ hk;show some (AV.fmeth name (KC h.globs n K x))=_;rw[hx.eq]
theorem KOps.nilMeth {x:Operand} {name:String} {t:TypeId} {y:AV} [hx:EvK h.globs n K x (.fmeth name (.ifc t y))] (hm:(Xs P t name).isSome=true) (hk:KOps P n ops ex Q (k+1) os ((d,.fmeth name (.ifc t y))::K) h):KOps P n ops ex Q k (⟨some d,.nilCheck x,ty,pos,after,none⟩::os) K h:=by
 refine Kh (v:=.fmeth name (.ifc t y)) rfl ?_ hk;simp only[apure];rw[hx.eq];simp only[hm,if_true]
end
end Go.Am
namespace Go.Am
abbrev Str:=List UInt8
def wd (l:Str):ByteArray:=⟨l.toArray⟩
theorem ba_ext {a b:ByteArray} (h:a.data.toList=b.data.toList):a=b:=by
 cases a; cases b
 congr 1;exact Array.toList_inj.1 h
theorem ZX (l:Str):(wd l).data.toList=l:=rfl
theorem Up (l:Str):(wd l).toList=l:=by rw[ByteArray.toList_eq,ZX]
theorem wd_inj {a b:Str} (h:wd a=wd b):a=b:=by rw[←ZX a,←ZX b,h]
theorem wd_size (l:Str):(wd l).size=l.length:=by
 show(wd l).data.size=_;rw[←Array.length_toList,ZX]
theorem wd_append (a b:Str):wd a ++ wd b=wd (a ++ b):=ba_ext (by rw[ByteArray.data_append,Array.toList_append,ZX,ZX,ZX])
theorem JN (l:Str) (i j:Nat):(wd l).extract i j=wd ((l.take j).drop i):=ba_ext (by
 rw[ByteArray.data_extract,Array.toList_extract,ZX,ZX,List.extract_eq_take_drop];rw[List.drop_take])
theorem wd_get (l:Str) (i:Nat):(wd l)[i]? = l[i]?:=by
 have h:=wd_size l;by_cases hi:i<l.length
 ·rw[getElem?_pos (wd l) i (by rw[h]; exact hi),List.getElem?_eq_getElem hi];rfl
 ·rw[getElem?_neg (wd l) i (by rw[h]; exact hi),List.getElem?_eq_none (by omega)]
theorem wd_eql (a b:Str):((wd a).toList == (wd b).toList)=decide (a=b):=by
 rw[Up,Up,Bool.eq_iff_iff,beq_iff_eq,decide_eq_true_iff]
theorem VP {l:Str} {p:Nat} (hp:p<l.length):(wd l).get! p=l.getD p 0:=by
 have h:=wd_get l p;rw[List.getElem?_eq_getElem hp] at h;have hs:p<(wd l).size:=by rw[wd_size]; exact hp
 rw[getElem?_pos (wd l) p hs] at h;have h2:(wd l).get! p=(wd l)[p]'hs:=by
  show(wd l).data[p]! = (wd l).data[p]'hs;rw[getElem!_pos _ p hs]
 rw[h2,List.getD_eq_getElem?_getD,List.getElem?_eq_getElem hp];exact Option.some.inj h
instance instWC (globs:List Nat) (n:Nat) (K:KF) (l:Str):EvK globs n K (.const (.string ⟨l.toArray⟩)) (.str (wd l)):=⟨rfl⟩
abbrev kstr (s:Str):AV:=.str (wd s)
theorem KeyT.wstr {P:Program} {kt:TypeId} (h:Zr P kt=true):KeyT P kt kstr:=by
 refine⟨fun a=>by simp[QZ,h],fun a b=>?_⟩;simp only[XC,h,if_true];congr 1;rw[Bool.eq_iff_iff,decide_eq_true_iff,decide_eq_true_iff];exact⟨wd_inj,fun h=>by rw[h]⟩
abbrev wcs (l:List Str):List AV:=l.map fun w=>AV.str (wd w)
abbrev WRow (h:AHeap) (v:AV) (l:List Str):Prop:=Rd h v 1 (wcs l)
section
variable {P:Program} {n:Nat} {ops:Array Oper} {ex:List Nat} {Q:KF→AHeap→Prop} {k:Nat} {os:List Oper} {K:KF} {h h0:AHeap} {d:Nat} {ty:TypeId} {pos:String} {after:Array Edge} {objs:List Obj}
theorem KOps.strAdd {t t':TypeId} {x y:Operand} {a b:ByteArray} [hx:EvK h.globs n K x (.str a)] [hy:EvK h.globs n K y (.str b)] (hs:a.size+b.size≤4294967296) (hk:KOps P n ops ex Q (k+1) os ((d,.str (a ++ b))::K) h):KOps P n ops ex Q k (⟨some d,.binOp .add t x y t',ty,pos,after,none⟩::os) K h:=
 Kh rfl (by simp only[apure,hx.eq,hy.eq,Zm,astr]; rw[if_pos (by omega)]) hk
theorem KK {t t':TypeId} {x y:Operand} {a b:Str} [hx:EvK h.globs n K x (.str (wd a))] [hy:EvK h.globs n K y (.str (wd b))] (hs:a.length+b.length≤4294967296) (hk:KOps P n ops ex Q (k+1) os ((d,.str (wd (a ++ b)))::K) h):KOps P n ops ex Q k (⟨some d,.binOp .add t x y t',ty,pos,after,none⟩::os) K h:=
 KOps.strAdd (by rw[wd_size,wd_size]; exact hs) (by rw[wd_append]; exact hk)
theorem KOps.wEql {t t':TypeId} {x y:Operand} {a b:Str} [hx:EvK h.globs n K x (.str (wd a))] [hy:EvK h.globs n K y (.str (wd b))] (hk:KOps P n ops ex Q (k+1) os ((d,.bool (decide (a=b)))::K) h):KOps P n ops ex Q k (⟨some d,.binOp .eql t x y t',ty,pos,after,none⟩::os) K h:=
 Kh rfl (by simp only[apure,hx.eq,hy.eq,Zm,astr,wd_eql]) hk
theorem KOps.wNeq {t t':TypeId} {x y:Operand} {a b:Str} [hx:EvK h.globs n K x (.str (wd a))] [hy:EvK h.globs n K y (.str (wd b))] (hk:KOps P n ops ex Q (k+1) os ((d,.bool (!decide (a=b)))::K) h):KOps P n ops ex Q k (⟨some d,.binOp .neq t x y t',ty,pos,after,none⟩::os) K h:=
 Kh rfl (by simp only[apure,hx.eq,hy.eq,Zm,astr,wd_eql]) hk
theorem str_und {t:TypeId} (ht:Zr P t=true):P.underlying t=some .string:=by
 unfold Zr at ht;split at ht
 ·rename_i h; exact h
 ·cases ht
theorem KOps.lenStr {x : Operand} {t : TypeId} {s : ByteArray} [hx : EvK h.globs n K x (.str s)] [ht : StT P t] (hk : KOps P n ops ex Q (k + 1) os ((d, .int .i64 s.size) :: K) h) :
    KOps P n ops ex Q k (⟨some d,.call {callee:=.builtin .len,args:=#[x],argTypes:=#[t]},ty,pos,after,none⟩::os) K h:=by
  refine Kh rfl (v:=.int .i64 s.size) ?_ hk;simp only[apure,hx.eq,alen,str_und ht.st]
theorem KOps.lenW {x : Operand} {t : TypeId} {l : Str} [hx : EvK h.globs n K x (.str (wd l))] [ht : StT P t] (hk : KOps P n ops ex Q (k + 1) os ((d, .int .i64 (l.length : Int)) :: K) h) :
    KOps P n ops ex Q k (⟨some d,.call {callee:=.builtin .len,args:=#[x],argTypes:=#[t]},ty,pos,after,none⟩::os) K h:=
  KOps.lenStr (by rw[wd_size]; exact hk)
theorem KOps.sAt {t : TypeId} {x ix : Operand} {s : ByteArray} {kd : IntKind} {i : Int} {j : Nat} [hx : EvK h.globs n K x (.str s)] [hi : EvK h.globs n K ix (.int kd i)] [ht : StT P t] (hj : i = (j : Int)) (hlt : j < s.size) (hk : KOps P n ops ex Q (k + 1) os ((d, .int .u8 ((s.get! j).toNat : Int)) :: K) h) :
    KOps P n ops ex Q k (⟨some d,.index t x ix,ty,pos,after,none⟩::os) K h:=by
  subst hj;refine Kh rfl (v:=.int .u8 ((s.get! j).toNat:Int)) ?_ hk;simp only[apure,hx.eq,hi.eq,Ji,ht.st,Int.toNat_natCast];rw[if_pos ⟨trivial,by omega⟩,getElem?_pos s j hlt];have h2:s.get! j=s[j]'hlt:=by
    show s.data[j]! = s.data[j]'hlt;rw[getElem!_pos _ j hlt]
  rw[h2]; rfl
theorem KOps.wAt {t : TypeId} {x ix : Operand} {l : Str} {kd : IntKind} {i : Int} {j : Nat} [hx : EvK h.globs n K x (.str (wd l))] [hi : EvK h.globs n K ix (.int kd i)] [ht : StT P t] (hj : i = (j : Int)) (hlt : j < l.length) (hk : KOps P n ops ex Q (k + 1) os ((d, .int .u8 ((l.getD j 0).toNat : Int)) :: K) h) :
    KOps P n ops ex Q k (⟨some d,.index t x ix,ty,pos,after,none⟩::os) K h:=
  KOps.sAt hj (by rw[wd_size]; exact hlt) (by rw[VP hlt]; exact hk)
end
section
variable {P:Program} {n:Nat} {ops:Array Oper} {ex:List Nat} {Q:KF→AHeap→Prop} {k:Nat} {os:List Oper} {K:KF} {h h0:AHeap} {d:Nat} {ty:TypeId} {pos:String} {after:Array Edge} {objs pre rest:List Obj}
theorem KOps.loadM {x : Operand} {p v : AV} {t : TypeId} {j : Nat} {α : Type} {f : α → AV} {l : List α} (d0 : α) [hx : EvK h.globs n K x p] [ht : ScT P t] (ha : AddrOf p v 1 j) (hr : Rd h v 1 (l.map f)) (hj : j < l.length) (hk : KOps P n ops ex Q (k + 1) os ((d, f (l.getD j d0)) :: K) h) :
    KOps P n ops ex Q k (⟨some d,.load t x,ty,pos,after,none⟩::os) K h:=
  Of ha hr (by simp[List.getElem?_map,List.getElem?_eq_getElem hj,List.getD_eq_getElem?_getD]) hk
theorem O3 {x : Operand} {p v : AV} {t : TypeId} {j : Nat} {l : List Str} [hx : EvK h.globs n K x p] [ht : ScT P t] (ha : AddrOf p v 1 j) (hr : WRow h v l) (hj : j < l.length) (hk : KOps P n ops ex Q (k + 1) os ((d, .str (wd (l.getD j []))) :: K) h) :
    KOps P n ops ex Q k (⟨some d,.load t x,ty,pos,after,none⟩::os) K h:=
  KOps.loadM (f:=fun w=>AV.str (wd w)) [] ha hr hj hk
theorem wcs_len (l:List Str):(wcs l).length=l.length*1:=by simp
theorem KOps.appendW {t e : TypeId} {x y : Operand} {v u : AV} {i : Nat} {p q : List Str} {zs : List AV} {tip tip' : Bool} [hx : EvK h.globs n K x v] [hy : EvK h.globs n K y u] [ht : SlT P t e 1 zs] (st : St h0 h (⟨u, 1, wcs q, tip'⟩ :: objs)) (hex : ex.contains k = true → tip = true) (hk' : objs[i]? = some ⟨v, 1, wcs p, tip⟩) (hsz : p.length + q.length ≤ 4294967296)
    (hk:∀ r h',r.one=true→St h0 h' (objs.set i ⟨r,1,wcs (p ++ q),tip⟩)→KOps P n ops ex Q (k+1) os ((d,r)::K) h') :
    KOps P n ops ex Q k (⟨some d,.call {callee:=.builtin .append,args:=#[x,y],argTypes:=#[t,t]},ty,pos,after,none⟩::os) K h:=by
  refine KOps.append (e:=e) (zs:=zs) (s:=1) (i:=i+1) (a:=p.length) (b:=q.length) (xs:=wcs p) (ys:=wcs q) (tip:=tip) st hex (by simpa using hk') (wcs_len p) (st.rd 0 rfl) (wcs_len q) (by simp[AV.one]) hsz ?_;intro r h' hS;have hS':St h0 h' (objs.set i ⟨r,1,wcs (p ++ q),tip⟩):=by
    have:=St.tail hS;simpa [wcs] using this
  have hlt:=(List.getElem?_eq_some_iff.1 hk').1;exact hk r h' (hS'.one (k:=i) (o:=⟨r,1,wcs (p ++ q),tip⟩) (by rw[List.getElem?_set,if_pos rfl,if_pos hlt])) hS'
theorem Ku {t e : TypeId} {x y : Operand} {v u : AV} {i : Nat} {p : List Str} {a : Str} {zs : List AV} {tip tip' : Bool} [hx : EvK h.globs n K x v] [hy : EvK h.globs n K y u] [ht : SlT P t e 1 zs] (st : St h0 h (⟨u, 1, [.str (wd a)], tip'⟩ :: objs)) (hex : ex.contains k = true → tip = true) (hk' : objs[i]? = some ⟨v, 1, wcs p, tip⟩) (hsz : p.length + 1 ≤ 4294967296)
    (hk:∀ r h',r.one=true→St h0 h' (objs.set i ⟨r,1,wcs (p ++ [a]),tip⟩)→KOps P n ops ex Q (k+1) os ((d,r)::K) h') :
    KOps P n ops ex Q k (⟨some d,.call {callee:=.builtin .append,args:=#[x,y],argTypes:=#[t,t]},ty,pos,after,none⟩::os) K h:=
  KOps.appendW (e:=e) (zs:=zs) (q:=[a]) st hex hk' hsz hk
end
end Go.Am
namespace Go.Am
instance:ScT Go.Proofs.Tryz.prog 3:=ScT.of (by kernel_rfl)
instance:IntT Go.Proofs.Tryz.prog 3 .i64:=IntT.of (by kernel_rfl)
instance:ZeT Go.Proofs.Tryz.prog 3 [.int .i64 0]:=⟨by kernel_rfl⟩
instance:ScT Go.Proofs.Tryz.prog 4:=ScT.of (by kernel_rfl)
instance:ScT Go.Proofs.Tryz.prog 5:=ScT.of (by kernel_rfl)
instance:IntT Go.Proofs.Tryz.prog 5 .u8:=IntT.of (by kernel_rfl)
instance:ScT Go.Proofs.Tryz.prog 9:=ScT.of (by kernel_rfl)
instance:IntT Go.Proofs.Tryz.prog 21 .i32:=IntT.of (by kernel_rfl)
instance:ScT Go.Proofs.Tryz.prog 22:=ScT.of (by kernel_rfl)
instance:SlT Go.Proofs.Tryz.prog 22 9 1 [.str ⟨#[]⟩]:=SlT.of (by kernel_rfl) rfl (by decide)
instance:ScT Go.Proofs.Tryz.prog 37:=ScT.of (by kernel_rfl)
instance:ScT Go.Proofs.Tryz.prog 44:=ScT.of (by kernel_rfl)
instance:ZeT Go.Proofs.Tryz.prog 44 [.nils]:=⟨by kernel_rfl⟩
instance:SlT Go.Proofs.Tryz.prog 44 3 1 [.int .i64 0]:=SlT.of (by kernel_rfl) rfl (by decide)
instance:SlT Go.Proofs.Tryz.prog 53 87 4 [.int .u8 0,.int .u8 0,.int .u8 0,.int .u8 0]:=SlT.of (by kernel_rfl) rfl (by decide)
instance:AgT Go.Proofs.Tryz.prog 87 4:=AgT.of (by kernel_rfl)
instance:ZeT Go.Proofs.Tryz.prog 87 [.int .u8 0,.int .u8 0,.int .u8 0,.int .u8 0]:=⟨by kernel_rfl⟩
instance:ScT Go.Proofs.Tryz.prog 101:=ScT.of (by kernel_rfl)
instance:SlT Go.Proofs.Tryz.prog 101 151 4 [.int .i64 0,.int .i64 0,.int .i64 0,.int .i64 0]:=SlT.of (by kernel_rfl) rfl (by decide)
instance:AgT Go.Proofs.Tryz.prog 103 2:=AgT.of (by kernel_rfl)
instance:ZeT Go.Proofs.Tryz.prog 103 [.int .i64 0,.nils]:=⟨by kernel_rfl⟩
instance:ScT Go.Proofs.Tryz.prog 120:=ScT.of (by kernel_rfl)
instance:AgT Go.Proofs.Tryz.prog 127 7:=AgT.of (by kernel_rfl)
instance:ZeT Go.Proofs.Tryz.prog 127 [.int .i64 0,.int .i64 0,.int .i64 0,.nils,.nils,.nils,.bool false]:=⟨by kernel_rfl⟩
instance:ScT Go.Proofs.Tryz.prog 128:=ScT.of (by kernel_rfl)
instance:ScT Go.Proofs.Tryz.prog 129:=ScT.of (by kernel_rfl)
instance:ScT Go.Proofs.Tryz.prog 130:=ScT.of (by kernel_rfl)
instance:AgT Go.Proofs.Tryz.prog 151 4:=AgT.of (by kernel_rfl)
instance:ZeT Go.Proofs.Tryz.prog 151 [.int .i64 0,.int .i64 0,.int .i64 0,.int .i64 0]:=⟨by kernel_rfl⟩
instance:ScT Go.Proofs.Tryz.prog 173:=ScT.of (by kernel_rfl)
instance:SlT Go.Proofs.Tryz.prog 173 221 4 [.int .i64 0,.int .i64 0,.int .i64 0,.int .i64 0]:=SlT.of (by kernel_rfl) rfl (by decide)
instance:ScT Go.Proofs.Tryz.prog 185:=ScT.of (by kernel_rfl)
instance:AgT Go.Proofs.Tryz.prog 203 3:=AgT.of (by kernel_rfl)
instance:AgT Go.Proofs.Tryz.prog 205 2:=AgT.of (by kernel_rfl)
instance:AgT Go.Proofs.Tryz.prog 221 4:=AgT.of (by kernel_rfl)
instance:ZeT Go.Proofs.Tryz.prog 221 [.int .i64 0,.int .i64 0,.int .i64 0,.int .i64 0]:=⟨by kernel_rfl⟩
instance:ScT Go.Proofs.Tryz.prog 229:=ScT.of (by kernel_rfl)
instance:AgT Go.Proofs.Tryz.prog 293 3:=AgT.of (by kernel_rfl)
instance:ZeT Go.Proofs.Tryz.prog 293 [.int .i64 0,.int .i64 0,.bool false]:=⟨by kernel_rfl⟩
instance:ScT Go.Proofs.Tryz.prog 294:=ScT.of (by kernel_rfl)
instance:ZeT Go.Proofs.Tryz.prog 294 [.nilm]:=⟨by kernel_rfl⟩
end Go.Am
namespace Go.Am
instance ky3:KeyT Go.Proofs.Tryz.prog 3 (AV.int .i64):=KeyT.int (by kernel_rfl)
instance st9:StT Go.Proofs.Tryz.prog 9:=⟨by kernel_rfl⟩
instance fd39_0:FdT Go.Proofs.Tryz.prog 39 0 0:=FdT.of (by kernel_rfl)
instance fd39_1:FdT Go.Proofs.Tryz.prog 39 1 1:=FdT.of (by kernel_rfl)
instance fd103_0:FdT Go.Proofs.Tryz.prog 103 0 0:=FdT.of (by kernel_rfl)
instance fd103_1:FdT Go.Proofs.Tryz.prog 103 1 1:=FdT.of (by kernel_rfl)
instance fd127_0:FdT Go.Proofs.Tryz.prog 127 0 0:=FdT.of (by kernel_rfl)
instance fd127_1:FdT Go.Proofs.Tryz.prog 127 1 1:=FdT.of (by kernel_rfl)
instance fd127_2:FdT Go.Proofs.Tryz.prog 127 2 2:=FdT.of (by kernel_rfl)
instance fd127_3:FdT Go.Proofs.Tryz.prog 127 3 3:=FdT.of (by kernel_rfl)
instance fd127_4:FdT Go.Proofs.Tryz.prog 127 4 4:=FdT.of (by kernel_rfl)
instance fd127_5:FdT Go.Proofs.Tryz.prog 127 5 5:=FdT.of (by kernel_rfl)
instance fd127_6:FdT Go.Proofs.Tryz.prog 127 6 6:=FdT.of (by kernel_rfl)
instance mp128:MpT Go.Proofs.Tryz.prog 128 9 (.nilp):=MpT.of (by kernel_rfl)
instance mp129:MpT Go.Proofs.Tryz.prog 129 3 (.nilp):=MpT.of (by kernel_rfl)
instance mp130:MpT Go.Proofs.Tryz.prog 130 3 (.bool false):=MpT.of (by kernel_rfl)
instance fd132_0:FdT Go.Proofs.Tryz.prog 132 0 0:=FdT.of (by kernel_rfl)
instance fd132_1:FdT Go.Proofs.Tryz.prog 132 1 1:=FdT.of (by kernel_rfl)
instance fd132_2:FdT Go.Proofs.Tryz.prog 132 2 2:=FdT.of (by kernel_rfl)
instance fd132_3:FdT Go.Proofs.Tryz.prog 132 3 3:=FdT.of (by kernel_rfl)
instance fd132_4:FdT Go.Proofs.Tryz.prog 132 4 4:=FdT.of (by kernel_rfl)
instance fd132_5:FdT Go.Proofs.Tryz.prog 132 5 5:=FdT.of (by kernel_rfl)
instance fd136_0:FdT Go.Proofs.Tryz.prog 136 0 0:=FdT.of (by kernel_rfl)
instance fd136_1:FdT Go.Proofs.Tryz.prog 136 1 1:=FdT.of (by kernel_rfl)
instance fd151_0:FdT Go.Proofs.Tryz.prog 151 0 0:=FdT.of (by kernel_rfl)
instance fd151_1:FdT Go.Proofs.Tryz.prog 151 1 1:=FdT.of (by kernel_rfl)
instance fd151_2:FdT Go.Proofs.Tryz.prog 151 2 2:=FdT.of (by kernel_rfl)
instance fd151_3:FdT Go.Proofs.Tryz.prog 151 3 3:=FdT.of (by kernel_rfl)
instance fd175_0:FdT Go.Proofs.Tryz.prog 175 0 0:=FdT.of (by kernel_rfl)
instance fd175_1:FdT Go.Proofs.Tryz.prog 175 1 1:=FdT.of (by kernel_rfl)
instance fd199_0:FdT Go.Proofs.Tryz.prog 199 0 0:=FdT.of (by kernel_rfl)
instance fd201_0:FdT Go.Proofs.Tryz.prog 201 0 0:=FdT.of (by kernel_rfl)
instance fd201_1:FdT Go.Proofs.Tryz.prog 201 1 1:=FdT.of (by kernel_rfl)
instance fd201_2:FdT Go.Proofs.Tryz.prog 201 2 2:=FdT.of (by kernel_rfl)
instance fd203_0:FdT Go.Proofs.Tryz.prog 203 0 0:=FdT.of (by kernel_rfl)
instance fd203_1:FdT Go.Proofs.Tryz.prog 203 1 1:=FdT.of (by kernel_rfl)
instance fd203_2:FdT Go.Proofs.Tryz.prog 203 2 2:=FdT.of (by kernel_rfl)
instance fd205_0:FdT Go.Proofs.Tryz.prog 205 0 0:=FdT.of (by kernel_rfl)
instance fd205_1:FdT Go.Proofs.Tryz.prog 205 1 1:=FdT.of (by kernel_rfl)
instance fd207_0:FdT Go.Proofs.Tryz.prog 207 0 0:=FdT.of (by kernel_rfl)
instance fd207_1:FdT Go.Proofs.Tryz.prog 207 1 1:=FdT.of (by kernel_rfl)
instance fd209_0:FdT Go.Proofs.Tryz.prog 209 0 0:=FdT.of (by kernel_rfl)
instance fd209_1:FdT Go.Proofs.Tryz.prog 209 1 1:=FdT.of (by kernel_rfl)
instance fd211_0:FdT Go.Proofs.Tryz.prog 211 0 0:=FdT.of (by kernel_rfl)
instance fd221_0:FdT Go.Proofs.Tryz.prog 221 0 0:=FdT.of (by kernel_rfl)
instance fd221_1:FdT Go.Proofs.Tryz.prog 221 1 1:=FdT.of (by kernel_rfl)
instance fd221_2:FdT Go.Proofs.Tryz.prog 221 2 2:=FdT.of (by kernel_rfl)
instance fd221_3:FdT Go.Proofs.Tryz.prog 221 3 3:=FdT.of (by kernel_rfl)
instance ar230:ArT Go.Proofs.Tryz.prog 230 64:=ArT.of (by kernel_rfl)
instance fd265_0:FdT Go.Proofs.Tryz.prog 265 0 0:=FdT.of (by kernel_rfl)
instance fd265_1:FdT Go.Proofs.Tryz.prog 265 1 2:=FdT.of (by kernel_rfl)
instance fd293_0:FdT Go.Proofs.Tryz.prog 293 0 0:=FdT.of (by kernel_rfl)
instance fd293_1:FdT Go.Proofs.Tryz.prog 293 1 1:=FdT.of (by kernel_rfl)
instance fd293_2:FdT Go.Proofs.Tryz.prog 293 2 2:=FdT.of (by kernel_rfl)
instance mp294:MpT Go.Proofs.Tryz.prog 294 3 (.agg [.int .i64 0,.int .i64 0,.bool false]):=MpT.of (by kernel_rfl)
theorem mixed:Go.Proofs.Tryz.prog.follows .mixedOrders=true:=by kernel_rfl
end Go.Am
namespace Go.Am
theorem Wn {E:List (Int × Bool)} (B:Int):∀ (D:List Nat) (l:List Int),(∀ x∈l,-B≤x∧x≤B)→∀ x∈K4 E l D,-(B+D.length)≤x∧x≤B+D.length:=by
 intro D
 induction D generalizing B with
 | nil=>intro l h x hx; simpa using h x hx
 | cons j D ih=>
  intro l h x hx;have h1:∀ y∈ZH E l j,-(B+1)≤y∧y≤B+1:=by
   intro y hy;unfold ZH at hy;split at hy
   ·rename_i w m _;rcases List.mem_or_eq_of_mem_set hy with hy|rfl
    ·have:=h y hy; omega
    ·have h2 : -B≤l.getD w.toNat 0∧l.getD w.toNat 0≤B∨l.getD w.toNat 0=0:=by
      rw[List.getD_eq_getElem?_getD];by_cases hw:w.toNat<l.length
      ·rw[List.getElem?_eq_getElem hw]; exact .inl (h _ (List.getElem_mem hw))
      ·rw[List.getElem?_eq_none (by omega)]; exact .inr rfl
     by_cases hB : 0≤B
     ·split <;> omega
     ·have:l = []:=by
       cases l with
       | nil=>rfl
       | cons a l=>have:=h a (by simp); omega
      subst this;simp at hy
   ·have:=h y hy; omega
  have h2:=ih (B+1) (ZH E l j) h1 x hx;rw[List.length_cons];omega
abbrev entB (E:List (Int × Bool)):List (AV × AV):=entL (AV.int .i64) AV.bool E
theorem push_c {h0 h : AHeap} {pf vn vm a0 a1 : AV} {ns : List Int} {E : List (Int × Bool)} {tf tn : Bool} {G : List Obj} (hpf : AddrOf pf pf 0 0) (hvm : Zy vm) (hn0 : ns ≠ []) (hE : ∀ p ∈ E, 0 ≤ p.1 ∧ p.1 < ns.length) (hb : ∀ x ∈ ns, -1000000000 ≤ x ∧ x ≤ 1000000000) (hEl : E.length ≤ 1000000000)
    (hS:St h0 h (⟨pf,0,[a0,a1,vn],tf⟩::⟨vn,1,ints ns,tn⟩::mapO vm (entB E)::G)) :
    ACalls Go.Proofs.Tryz.prog 219 [pf,vm] h (fun _ h'=>St h0 h' (⟨pf,0,[a0,a1,vn],tf⟩::⟨vn,1,ints (K4 E ns (List.range E.length)),tn⟩::mapO vm (entB E)::G)):=by
  obtain⟨bm,Fm,hvm',hgm⟩:=St.rdM hS 2 rfl hvm;have hlen:(entB E).length=E.length:=by simp[entB]
  have hS1:=St.allocT hS (.mwalk bm (entB E).length []);have hgI:(h.allocT (.mwalk bm (entB E).length [])).get h.next=some (.obj h.nfam (.mwalk bm (entB E).length [])):=by rw[AHeap.get_allocT,if_pos rfl]
  have hgM:(h.allocT (.mwalk bm (entB E).length [])).get bm=some (.obj Fm (.map (entB E))):=by
    rw[AHeap.get_allocT,if_neg (by have:=AHeap.get_lt hgm; omega)]; exact hgm
  generalize hh1:h.allocT (.mwalk bm (entB E).length [])=h1 at hS1 hgI hgM;have hrow:∃ bn off full Fn pn cs f,vn = .slc bn off ns.length 1 full∧h1.get bn=some (.cells (some Fn) pn cs)∧h1.fam Fn=some f∧f.sees bn=true∧(cs.drop off).take ns.length=ints ns:=by
    obtain⟨_,fs,e1,e2,_⟩:=id hS1;have hlt : 2<fs.length:=by rw[e1]; simp
    have hmu:=e2 2 _ _ rfl (List.getElem?_eq_getElem hlt);generalize fs[2]'hlt=F at hmu
    cases F with
    | none=>
      have:=hmu.2;simp only[ints,List.map_eq_nil_iff] at this;exact absurd this hn0
    | some Fn=>
      rcases hmu with ⟨bn,off,pn,cs,f,_,hv,hg,hf,hs,hx,_⟩|⟨_,_,_,_,_,hz,_⟩
      · rcases hv with ⟨m,full,hv,hm,_⟩|⟨hz,_⟩
        · simp only[ints,List.length_map,Nat.mul_one] at hm hx;subst hm;exact⟨bn,off,full,Fn,pn,cs,f,hv,hg,hf,hs,by simpa [ints] using hx⟩
        · cases hz
      · cases hz
  obtain⟨bn,off,full,Fn,pn,cs,f,hvn,hgn,hfn,hsee,hcut⟩:=hrow;have hne:h.next≠bn:=by rintro rfl; rw[hgI] at hgn; cases hgn
  have hneM:bm≠bn:=by rintro rfl; rw[hgM] at hgn; cases hgn
  have hneI:bm≠h.next:=by have:=AHeap.get_lt hgm; omega
  have hIlt:=AHeap.get_lt hgI;have hnlt:=AHeap.get_lt hgn;have hFlt:=AHeap.fam_lt hfn;have hcl:off+ns.length≤cs.length:=by
    have h2:=congrArg List.length hcut;have h3:=List.length_pos_iff.2 hn0;simp only[List.length_take,List.length_drop,ints,List.length_map] at h2;omega
  let HS:List Nat→AHeap:=fun D=>Q1 h1 h.next h.nfam bm (entB E).length bn Fn pn cs off f D (ints (K4 E ns D))
  have hbl:∀ D,(K4 E ns D).length=ns.length:=fun D=>bumps_len E D ns
  have hH0:HS []=h1:=hpush_nil hgI hgn hfn (by simpa [K4] using hcut);have hgetI:∀ D,(HS D).get h.next=some (.obj h.nfam (.mwalk bm (entB E).length D)):=fun D=>by
    show(Q1 _ _ _ _ _ _ _ _ _ _ _ _ _).get _=_;rw[Vo _ hIlt hnlt,if_neg hne,if_pos rfl]
  have hgetM:∀ D,(HS D).get bm=some (.obj Fm (.map (entB E))):=fun D=>by
    show(Q1 _ _ _ _ _ _ _ _ _ _ _ _ _).get _=_;rw[Vo _ hIlt hnlt,if_neg hneM,if_neg hneI]; exact hgM
  have hgetN:∀ D,(HS D).get bn=some (.cells (some Fn) pn (putL cs off (ints (K4 E ns D)))):=fun D=>by
    show(Q1 _ _ _ _ _ _ _ _ _ _ _ _ _).get _=_;rw[Vo _ hIlt hnlt,if_pos rfl]
  have hfamN:∀ D,(HS D).fam Fn=some (if D = [] then f else {f with live:=some [bn]}):=fun D=>hpush_fam hFlt
  have hmove : ∀ (D : List Nat) (j : Nat), St h0 (HS D) (⟨.it h.next, 0, Thing.enc (.mwalk bm (entB E).length D), false⟩ :: ⟨pf, 0, [a0, a1, vn], tf⟩ :: ⟨vn, 1, ints (K4 E ns D), tn⟩ :: mapO vm (entB E) :: G) →
      St h0 ((HS D).set h.next (.obj h.nfam (.mwalk bm (entB E).length (D ++ [j])))) (⟨.it h.next,0,Thing.enc (.mwalk bm (entB E).length (D ++ [j])),false⟩::⟨pf,0,[a0,a1,vn],tf⟩::⟨vn,1,ints (K4 E ns D),tn⟩::mapO vm (entB E)::G):=by
    intro D j hD;refine St.setT (k:=0) hD rfl (x:=.mwalk bm (entB E).length D) (x':=.mwalk bm (entB E).length (D ++ [j])) (fun _=>rfl) rfl (hgetI D) ?_;intro F hmu
    cases F with
    | none=>cases hmu.1
    | some F=>
      rcases hmu with ⟨b,o,p,c,f',_,hv,_⟩|⟨b,x,f',hlo,hv,_,hg,hf,_⟩
      · rcases hv with ⟨_,_,hv,_⟩|⟨_,hv⟩ <;> cases hv
      · have hbb:h.next=b:=by cases x <;> first|exact AV.it.inj hv|cases hv
        subst hbb;rw[hgetI D] at hg
        cases hg
        exact⟨rfl,hlo,f',hf⟩
  have hput:∀ (xs:List AV) (w:Nat) (x:AV),w<xs.length→off+xs.length≤cs.length→putL (putL cs off xs) (off+w) [x]=putL cs off (xs.set w x):=by
    intro xs w x hw hc;have hl:(putL cs off xs).length=cs.length:=KO _ _ _ hc;have hl2:(putL cs off (xs.set w x)).length=cs.length:=KO _ _ _ (by rw[List.length_set]; exact hc);rw[Y0 _ _ _ (by omega)];unfold putL;have e1:(cs.take off).length=off:=by rw[List.length_take]; omega
    rw[List.append_assoc,List.append_assoc,List.set_append_right _ _ (by omega),e1,Nat.add_sub_cancel_left,List.set_append_left _ _ hw,List.length_set]
  have hints:∀ (l:List Int) (w:Nat) (c:Int),(ints l).set w (.int .i64 c)=ints (l.set w c):=fun l w c=>by simp[ints,List.map_set]
  have hbump:∀ (D:List Nat) (j:Nat) (w:Int) (m:Bool),E[j]? = some (w,m)→K4 E ns (D ++ [j])=(K4 E ns D).set w.toNat ((K4 E ns D).getD w.toNat 0+if m then 1 else -1):=by
    intro D j w m hj;rw[Jm,ZH,hj]
  have hstore:∀ (D:List Nat) (j:Nat) (w:Int) (m:Bool),E[j]? = some (w,m)→ZZ Go.Proofs.Tryz.prog ((HS D).set h.next (.obj h.nfam (.mwalk bm (entB E).length (D ++ [j])))) 3 (.ptr bn (off+w.toNat)) (.int .i64 ((K4 E ns D).getD w.toNat 0+if m then 1 else -1))=some (.tup [],HS (D ++ [j])):=by
    intro D j w m hj;have hwl:=hE _ (List.mem_of_getElem? hj);dsimp only at hwl;have hg:((HS D).set h.next (.obj h.nfam (.mwalk bm (entB E).length (D ++ [j])))).get bn=some (.cells (some Fn) pn (putL cs off (ints (K4 E ns D)))):=by
      rw[AHeap.get_set,if_neg (by rintro⟨rfl,_⟩; exact hne rfl)]; exact hgetN D
    have hf:((HS D).set h.next (.obj h.nfam (.mwalk bm (entB E).length (D ++ [j])))).fam Fn=some (if D = [] then f else {f with live:=some [bn]}):=hfamN D;have hlp:(putL cs off (ints (K4 E ns D))).length=cs.length:=KO _ _ _ (by simpa [ints,hbl D] using hcl);have hsz:szA Go.Proofs.Tryz.prog 3=some 1:=ScT.sz;have hval:((HS D).set h.next (.obj h.nfam (.mwalk bm (entB E).length (D ++ [j])))).valid bn=true:=by
      unfold AHeap.valid;rw[hg];simp only[hf];by_cases hD:D = []
      · rw[if_pos hD]; exact hsee
      · rw[if_neg hD]; simp[Fam.sees]
    simp only[ZZ,hg,hf,hsz,AV.cells?,AV.one,if_true,Option.bind_eq_bind,Option.bind_some];rw[if_pos ⟨hval,rfl,by rw[hlp]; simp only[List.length_singleton]; omega⟩];refine congrArg (fun q=>some (AV.tup [],q)) ?_;refine hpush_step hne (by simp) ?_ ?_
    · rw[hput _ _ _ (by simp only[ints,List.length_map,hbl]; omega) (by simpa [ints,hbl D] using hcl),hints,hbump D j w m hj]
    · by_cases hD:D = []
      · rw[if_pos hD]
      · rw[if_neg hD]
  have hEj:∀ j,j<(entB E).length→∃ w m,E[j]? = some (w,m):=fun j hj=>⟨_,_,List.getElem?_eq_getElem (by omega)⟩
  have hSt:∀ (k:Nat) (D:List Nat),D.length=k→(∀ j∈D,j<(entB E).length)→St h0 (HS D) (⟨.it h.next,0,Thing.enc (.mwalk bm (entB E).length D),false⟩::⟨pf,0,[a0,a1,vn],tf⟩::⟨vn,1,ints (K4 E ns D),tn⟩::mapO vm (entB E)::G):=by
    intro k
    induction k with
    | zero=>
      intro D hD _;obtain rfl:=List.length_eq_zero_iff.1 hD;rw[hH0];exact hS1
    | succ k ih=>
      intro D hD hin;rcases List.eq_nil_or_concat D with rfl|⟨D',j,rfl⟩
      · cases hD
      · rw[List.concat_eq_append] at hD hin⊢;have hD':=ih D' (by simpa using hD) (fun i hi=>hin i (by simp[hi]));obtain⟨w,m,hj⟩:=hEj j (hin j (by simp));have hwl:=hE _ (List.mem_of_getElem? hj);dsimp only at hwl;have hm:=hmove D' j hD';obtain⟨h',e1,e2⟩:=St.store (P:=Go.Proofs.Tryz.prog) (t:=3) hm (k:=2) rfl (p:=.ptr bn (off+w.toNat)) (y:=.int .i64 ((K4 E ns D').getD w.toNat 0+if m then 1 else -1)) (j:=w.toNat) (l:=[.int .i64 ((K4 E ns D').getD w.toNat 0+if m then 1 else -1)]) ⟨bn,off,.inl ⟨Nat.one_pos,_,_,hvn⟩,rfl⟩ rfl ScT.sz (by simp) (by simp only[ints,List.length_map,hbl,List.length_singleton]; omega);rw[hstore D' j w m hj] at e1;simp only[Option.some.injEq,Prod.mk.injEq,true_and] at e1;subst e1;simp only[List.set_cons_succ,List.set_cons_zero] at e2;rw[Y0 _ _ _ (by simp only[ints,List.length_map,hbl]; omega),hints,←hbump D' j w m hj] at e2;exact e2
  have hmap:ZK Go.Proofs.Tryz.prog 130=some (3,4):=by kernel_rfl
  refine OI 32 [] Go.Proofs.Tryz.func219 rfl (by decide) rfl rfl (Nat.le_of_ble_eq_true rfl) ?_;show KA _ 32 _ _ [(0,pf),(1,vm)] _;refine Oz ?_;refine KOps.stepT (Wv rfl hmap (EvK.eq.trans hvm') hgm) ?_;refine Oh ?_;refine Od ?_;refine Oy ?_;rw[hh1];refine KA.mapLoop (b:=h.next) (F:=h.nfam) (bm:=bm) (Fm:=Fm) (es:=entB E) (id:=0) (fun D=>[(0,pf),(7,.it h.next)]) HS (KE:=[]) (HE:=(HS (List.range (entB E).length)).set h.next (.obj h.nfam .gone)) rfl (fun _ _=>EvK.eq) (fun D _=>hgetI D) (fun D _=>hgetM D) ?_ ?_ (Sub.cons Look.eq (Sub.cons Look.eq (Sub.nil _))) hH0.symm ?_
  · intro D j k v hD hj hjk;have hjl:=(List.getElem?_eq_some_iff.1 hjk).1;obtain⟨w,m,hw⟩:=hEj j hjl;have hkv:k = .int .i64 w∧v = .bool m:=by
      simp only[entB,entL,List.getElem?_map,hw,Option.map_some,Option.some.injEq,Prod.mk.injEq] at hjk;exact⟨hjk.1.symm,hjk.2.symm⟩
    obtain⟨rfl,rfl⟩:=hkv;have hwl:=hE _ (List.mem_of_getElem? hw);dsimp only at hwl;have hSt':=hmove D j (hSt D.length D rfl hD.2);have hst:=hstore D j w m hw;have hDl:D.length≤1000000000:=by
      have:=ZL (m:=List.range (entB E).length) hD.1 (fun x hx=>List.mem_range.2 (hD.2 x hx));rw[List.length_range] at this;omega
    have hbd:=Wn (E:=E) 1000000000 D ns hb ((K4 E ns D).getD w.toNat 0) (by
      rw[List.getD_eq_getElem?_getD,List.getElem?_eq_getElem (by rw[hbl]; omega)];exact List.getElem_mem _)
    have hgI':((HS D).set h.next (.obj h.nfam (.mwalk bm (entB E).length (D ++ [j])))).get h.next=some (.obj h.nfam (.mwalk bm (entB E).length (D ++ [j]))):=by
      rw[AHeap.get_set,if_pos ⟨rfl,AHeap.get_lt (hgetI D)⟩]
    have hgM':((HS D).set h.next (.obj h.nfam (.mwalk bm (entB E).length (D ++ [j])))).get bm=some (.obj Fm (.map (entB E))):=by
      rw[AHeap.get_set,if_neg (by rintro⟨h3,_⟩; exact hneI h3)]; exact hgetM D
    refine OW ?_;refine Oh ?_;refine Ot ?_;refine Kz ?_;refine Ow ?_;refine Od ?_;refine Oy ?_;refine Ov ?_;refine KOps.stepT (Ws rfl EvK.eq hgI' hgM' hjk) ?_;refine Oz ?_;refine Oh ?_;refine Od ?_;refine Oz ?_;refine Oh ?_;refine Od ?_
    cases m with
    | true=>
      refine Kz ?_
      · skip
        refine Oz ?_;refine On hpf ?_;refine Ob hpf ?_;intro p16 hp16;refine Of hp16 (hSt'.rd 1 rfl) rfl ?_;refine Og ?_;refine Ou (hSt'.rd 2 rfl) (j:=w.toNat) (by omega) (by rw[hbl]; omega) ?_;intro q hq;refine O9 hq (hSt'.rd 2 rfl) (by rw[hbl]; omega) ?_;refine KX (by omega) (by omega) ?_;refine Ou (hSt'.rd 2 rfl) (j:=w.toNat) (by omega) (by rw[hbl]; omega) ?_;intro q2 hq2;obtain⟨bq,oq,hq3,rfl⟩:=hq2;rcases hq3 with ⟨_,_,_,hq4⟩|⟨hq4,_⟩
        rotate_left
        · cases hq4
        rw[hvn] at hq4
        cases hq4
        refine KOps.storeE rfl (h':=HS (D ++ [j])) ?_ ?_
        · exact hst
        refine Oh ?_;refine Ol ?_;exact⟨rfl,Sub.cons Look.eq (Sub.cons Look.eq (Sub.nil _)),rfl⟩
    | false=>
      refine OH ?_
      · skip
        refine Oz ?_;refine On hpf ?_;refine Ob hpf ?_;intro p25 hp25;refine Of hp25 (hSt'.rd 1 rfl) rfl ?_;refine Og ?_;refine Ou (hSt'.rd 2 rfl) (j:=w.toNat) (by omega) (by rw[hbl]; omega) ?_;intro q hq;refine O9 hq (hSt'.rd 2 rfl) (by rw[hbl]; omega) ?_;refine QY (by omega) (by omega) ?_;refine Ou (hSt'.rd 2 rfl) (j:=w.toNat) (by omega) (by rw[hbl]; omega) ?_;intro q2 hq2;obtain⟨bq,oq,hq3,rfl⟩:=hq2;rcases hq3 with ⟨_,_,_,hq4⟩|⟨hq4,_⟩
        rotate_left
        · cases hq4
        rw[hvn] at hq4
        cases hq4
        refine KOps.storeE rfl (h':=HS (D ++ [j])) ?_ ?_
        · rw[show(K4 E ns D).getD w.toNat 0 - 1=(K4 E ns D).getD w.toNat 0 + -1 from rfl]; exact hst
        refine Oh ?_;refine Ol ?_;exact⟨rfl,Sub.cons Look.eq (Sub.cons Look.eq (Sub.nil _)),rfl⟩
  · intro D hD hf;have hperm:D.Perm (List.range (entB E).length):=(List.perm_ext_iff_of_nodup hD.1 List.nodup_range).2 fun i=>⟨fun hi=>List.mem_range.2 (hD.2 i hi),fun hi=>hf i (List.mem_range.1 hi)⟩
    refine OW ?_;refine Oh ?_;refine Ot ?_;refine OH ?_;refine Kc ?_;refine OV ?_;refine⟨rfl,Sub.nil _,⟨_,hgetI D⟩,?_⟩;show(Q1 _ _ _ _ _ _ _ _ _ _ _ D _).set _ _=(Q1 _ _ _ _ _ _ _ _ _ _ _ _ _).set _ _;rw[bumps_perm hperm ns];refine hpush_gone hne ⟨fun h3=>?_,fun h3=>?_⟩
    · subst h3; exact(List.nil_perm.1 hperm)
    · rw[h3] at hperm; exact List.perm_nil.1 hperm
  · refine OZ ?_;refine KU ?_;have h3:=hSt _ (List.range (entB E).length) (List.length_range) (fun i hi=>List.mem_range.1 hi);have h4:St h0 ((HS (List.range (entB E).length)).set h.next (.obj h.nfam .gone)) (⟨.it h.next,0,Thing.enc .gone,false⟩::⟨pf,0,[a0,a1,vn],tf⟩::⟨vn,1,ints (K4 E ns (List.range (entB E).length)),tn⟩::mapO vm (entB E)::G):=by
      refine St.setT (k:=0) h3 rfl (x:=.mwalk bm (entB E).length (List.range (entB E).length)) (x':=.gone) (fun _=>rfl) rfl (hgetI _) ?_;intro F hmu
      cases F with
      | none=>cases hmu.1
      | some F=>
        rcases hmu with ⟨b,o,p,c,f',_,hv,_⟩|⟨b,x,f',hlo,hv,_,hg,hf,_⟩
        · rcases hv with ⟨_,_,hv,_⟩|⟨_,hv⟩ <;> cases hv
        · have hbb:h.next=b:=by cases x <;> first|exact AV.it.inj hv|cases hv
          subst hbb;rw[hgetI] at hg
          cases hg
          exact⟨rfl,hlo,f',hf⟩
    rw[←hlen];exact St.tail h4
end Go.Am
namespace Go.Am
structure W where
 f:Int
 t:Int
 l:Int
 m:Int
 deriving DecidableEq,Inhabited
abbrev wc (w:W):List AV:=[.int .i64 w.f,.int .i64 w.t,.int .i64 w.l,.int .i64 w.m]
theorem KL (w:W):(wc w).length=4:=rfl
def Kr (r:Int) (w:W):Int:=
 if ¬ (0≤w.f∧w.f<r∧0≤w.t∧w.t<r) then 2 else if w.f=w.t then 13 else if ¬ (0≤w.l∧w.l≤w.m∧w.m≤99) then 1 else 0
def Qz (r : Int) (ws : List W) : Nat → Int
  | 0=>0
  | i+1=>if Qz r ws i=0 then Kr r (ws.getD i default) else Qz r ws i
def Kx (r:Int) (ws:List W):Int:=if ¬ (2≤r∧r≤6) then 1 else if 12<ws.length then 3 else Qz r ws ws.length
theorem waysE_zero {r:Int} {ws:List W}:∀ {n i:Nat},i≤n→Qz r ws n=0→Qz r ws i=0:=by
  intro n
  induction n with
  | zero => intro i hi h; obtain rfl : i = 0 := by omega
            exact h
  | succ n ih=>
    intro i hi h;have h1:Qz r ws n=0:=by
      rw[Qz] at h;by_cases h2:Qz r ws n=0
      · exact h2
      · rw[if_neg h2] at h; exact h
    rcases Nat.lt_or_eq_of_le hi with h3|rfl
    · exact ih (by omega) h1
    · exact h
theorem JM {r:Int} {ws:List W} {i:Nat} (h0:Qz r ws i=0) (he:Kr r (ws.getD i default)≠0):∀ {n:Nat},i<n→Qz r ws n=Kr r (ws.getD i default):=by
 intro n
 induction n with
 | zero=>intro h; omega
 | succ n ih=>
  intro h;rcases Nat.lt_succ_iff_lt_or_eq.1 h with h1|rfl
  ·rw[Qz,ih h1,if_neg he]
  ·rw[Qz,if_pos h0]
theorem waysE_all {r:Int} {ws:List W} {n:Nat} (h:Qz r ws n=0) {i:Nat} (hi:i<n):Kr r (ws.getD i default)=0:=by
 have h1:=waysE_zero (show i≤n by omega) h;by_cases h2:Kr r (ws.getD i default)=0
 ·exact h2
 ·rw[JM h1 h2 hi] at h; exact absurd h h2
structure WOk (r:Int) (w:W):Prop where
 f0 : 0≤w.f
 f1:w.f<r
 t0 : 0≤w.t
 t1:w.t<r
 ne:w.f≠w.t
 l0 : 0≤w.l
 lm:w.l≤w.m
 m1:w.m≤99
theorem WOk.of {r:Int} {w:W} (h:Kr r w=0):WOk r w:=by
 unfold Kr at h;by_cases h1:¬ (0≤w.f∧w.f<r∧0≤w.t∧w.t<r)
 ·rw[if_pos h1] at h; cases h
 ·rw[if_neg h1] at h;by_cases h2:w.f=w.t
  ·rw[if_pos h2] at h; cases h
  ·rw[if_neg h2] at h;by_cases h3:¬ (0≤w.l∧w.l≤w.m∧w.m≤99)
   ·rw[if_pos h3] at h; cases h
   ·have h1:=Decidable.not_not.1 h1;have h3:=Decidable.not_not.1 h3;exact⟨h1.1,h1.2.1,h1.2.2.1,h1.2.2.2,h2,h3.1,h3.2.1,h3.2.2⟩
structure BOk (r:Int) (ws:List W):Prop where
 r2 : 2≤r
 r6:r≤6
 len:ws.length≤12
 way:∀ i,i<ws.length→WOk r (ws.getD i default)
theorem BOk.of {r:Int} {ws:List W} (h:Kx r ws=0):BOk r ws:=by
 unfold Kx at h;by_cases h1:¬ (2≤r∧r≤6)
 ·rw[if_pos h1] at h; cases h
 ·rw[if_neg h1] at h;by_cases h2 : 12<ws.length
  ·rw[if_pos h2] at h; cases h
  ·rw[if_neg h2] at h;have h1:=Decidable.not_not.1 h1;exact⟨h1.1,h1.2,by omega,fun i hi=>WOk.of (waysE_all h hi)⟩
end Go.Am
namespace Go.Am
def dl (a b:Int):Int:=if a=b then 1 else 0
def KQ (ws : List W) (n : List Int) (x : Int) : Nat → Int
  | 0=>0
  | i+1=>KQ ws n x i+n.getD i 0*(dl (ws.getD i default).t x - dl (ws.getD i default).f x)
abbrev kept (ws:List W) (n:List Int) (x:Int):Int:=KQ ws n x ws.length
structure Within (ws:List W) (n:List Int):Prop where
 len:n.length=ws.length
 lo:∀ i,i<ws.length→(ws.getD i default).l≤n.getD i 0
 hi:∀ i,i<ws.length→n.getD i 0≤(ws.getD i default).m
structure Flow (ws:List W) (n:List Int):Prop extends Within ws n where
 kp:∀ x,kept ws n x=0
def InR (r:Int) (ws:List W):Prop:=∀ i,i<ws.length→0≤(ws.getD i default).f∧(ws.getD i default).f<r∧0≤(ws.getD i default).t∧(ws.getD i default).t<r
theorem keptTo_set {ws:List W} {n:List Int} {x:Int} {i:Nat} {c:Int} (hi:i<n.length):∀ k,KQ ws (n.set i c) x k=KQ ws n x k+if i<k then (c - n.getD i 0)*(dl (ws.getD i default).t x - dl (ws.getD i default).f x) else 0:=by
  intro k
  induction k with
  | zero=>simp[KQ]
  | succ k ih=>
    by_cases h:i=k
    · subst h;have e1:(n.set i c).getD i 0=c:=by rw[Qo,if_pos ⟨rfl,hi⟩]
      rw[KQ,KQ,ih,e1,if_neg (Nat.lt_irrefl i),if_pos (Nat.lt_succ_self i),Int.sub_mul];omega
    · have e1:(n.set i c).getD k 0=n.getD k 0:=by rw[Qo,if_neg (fun h2=>h h2.1.symm)]
      rw[KQ,KQ,ih,e1];by_cases h3:i<k
      · rw[if_pos h3,if_pos (show i<k+1 by omega)]; omega
      · rw[if_neg h3,if_neg (show¬ i<k+1 by omega)]; omega
theorem UZ {ws:List W} {n:List Int} {x:Int} {i:Nat} {c:Int} (hi:i<n.length) (hw:i<ws.length):kept ws (n.set i c) x=kept ws n x+(c - n.getD i 0)*(dl (ws.getD i default).t x - dl (ws.getD i default).f x):=by
 rw[kept,keptTo_set hi,if_pos hw]
def Vd (ws:List W) (n:List Int) (A:Nat→Bool) (u v:Int) (i:Nat) (more:Bool):Prop:=
 i<ws.length∧A i=true∧if more then (ws.getD i default).f=u∧(ws.getD i default).t=v∧n.getD i 0<(ws.getD i default).m else (ws.getD i default).t=u∧(ws.getD i default).f=v∧(ws.getD i default).l<n.getD i 0
inductive Path (ws:List W) (n:List Int) (A:Nat→Bool) (u:Int):List Int→Int→List (Int × Bool)→Prop where
 | nil:Path ws n A u [u] u []
 | snoc {vs:List Int} {v x:Int} {E:List (Int × Bool)} {i:Nat} {more:Bool} (p:Path ws n A u vs v E) (s:Vd ws n A v x i more) (hx:x ∉ vs):Path ws n A u (x::vs) x (((i:Int),more)::E)
section
variable {ws:List W} {n:List Int} {A:Nat→Bool} {u v:Int} {vs:List Int} {E:List (Int × Bool)}
theorem Path.last (p:Path ws n A u vs v E):v∈vs:=by cases p <;> simp
theorem Path.ends (p:Path ws n A u vs v E):∀ q∈E,∃ i:Nat,q.1=(i:Int)∧i<ws.length∧A i=true∧(ws.getD i default).f∈vs∧(ws.getD i default).t∈vs∧(if q.2 then n.getD i 0<(ws.getD i default).m else (ws.getD i default).l<n.getD i 0):=by
  induction p with
  | nil=>intro q hq; cases hq
  | @snoc vs v x E i more p s hx ih=>
    intro q hq;rcases List.mem_cons.1 hq with rfl|hq
    · refine⟨i,rfl,s.1,s.2.1,?_⟩;have hv:=p.last;have hs:=s.2.2
      cases more with
      | true=>
        simp only[if_true] at hs⊢;exact⟨by rw[hs.1]; simp[hv],by rw[hs.2.1]; simp,hs.2.2⟩
      | false=>
        simp only[Bool.false_eq_true,if_false] at hs⊢;exact⟨by rw[hs.2.1]; simp,by rw[hs.1]; simp[hv],hs.2.2⟩
    · obtain⟨j,h1,h2,h3,h4,h5,h6⟩:=ih q hq;exact⟨j,h1,h2,h3,List.mem_cons_of_mem _ h4,List.mem_cons_of_mem _ h5,h6⟩
theorem Path.keys (p:Path ws n A u vs v E):(E.map (·.1)).Nodup:=by
 induction p with
 | nil=>exact List.nodup_nil
 | @snoc vs v x E i more p s hx ih=>
  rw[List.map_cons,List.nodup_cons];refine⟨?_,ih⟩;intro hm;obtain⟨q,hq,he⟩:=List.mem_map.1 hm;obtain⟨j,h1,_,_,h4,h5,_⟩:=p.ends q hq;have hij:j=i:=by
   have:(j:Int)=(i:Int):=by rw[←h1]; exact he
   omega
  subst hij;have hs:=s.2.2
  cases more with
  | true=>simp only[if_true] at hs; rw[hs.2.1] at h5; exact hx h5
  | false=>simp only[Bool.false_eq_true,if_false] at hs; rw[hs.2.1] at h4; exact hx h4
def QG (l:List Int) (q:Int × Bool):List Int:=l.set q.1.toNat (l.getD q.1.toNat 0+if q.2 then 1 else -1)
def K7 (E:List (Int × Bool)) (n:List Int):List Int:=E.foldr (fun q l=>QG l q) n
theorem bump1_len (l:List Int) (q:Int × Bool):(QG l q).length=l.length:=by simp[QG]
theorem Z8 (E:List (Int × Bool)) (n:List Int):(K7 E n).length=n.length:=by
 induction E with
 | nil=>rfl
 | cons q E ih=>show(QG (K7 E n) q).length=_; rw[bump1_len,ih]
theorem Yz {E:List (Int × Bool)} {l:List Int} {j:Nat} {q:Int × Bool} (h:E[j]? = some q):ZH E l j=QG l q:=by
 unfold ZH QG;rw[h]
theorem bump1_comm (l:List Int) (p q:Int × Bool):QG (QG l p) q=QG (QG l q) p:=by
 have h:=Ub [p,q] l 0 1;rw[Yz (E:=[p,q]) (j:=0) rfl,Yz (E:=[p,q]) (j:=1) rfl,Yz (E:=[p,q]) (j:=1) rfl,Yz (E:=[p,q]) (j:=0) rfl] at h;exact h
theorem Wo (E:List (Int × Bool)) (n:List Int):∀ k,k≤E.length→K4 E n (List.range k)=(E.take k).foldl QG n:=by
 intro k
 induction k with
 | zero=>intro _; rfl
 | succ k ih=>
  intro hk;have hg:E[k]? = some (E[k]'(by omega)):=List.getElem?_eq_getElem _;rw[List.range_succ,Jm,ih (by omega),Yz hg,List.take_add_one,hg,List.foldl_append];rfl
theorem foldl_one (E:List (Int × Bool)):∀ (n:List Int) (q:Int × Bool),E.foldl QG (QG n q)=QG (E.foldl QG n) q:=by
 induction E with
 | nil=>intro n q; rfl
 | cons p E ih=>intro n q; rw[List.foldl_cons,List.foldl_cons,bump1_comm,ih]
theorem bumps_push (E:List (Int × Bool)) (n:List Int):K4 E n (List.range E.length)=K7 E n:=by
 rw[Wo E n _ (Nat.le_refl _),List.take_length]
 induction E with
 | nil=>rfl
 | cons q E ih=>rw[List.foldl_cons,foldl_one,ih]; rfl
theorem Xv {E:List (Int × Bool)} {n:List Int} {i:Nat} (h:∀ q∈E,q.1.toNat≠i):(K7 E n).getD i 0=n.getD i 0:=by
 induction E with
 | nil=>rfl
 | cons q E ih=>
  show(QG (K7 E n) q).getD i 0=_;rw[QG,Qo,if_neg (fun h2=>h q (by simp) h2.1.symm),ih (fun p hp=>h p (by simp[hp]))]
theorem pushE_at {E:List (Int × Bool)} {n:List Int} (hk:(E.map (·.1)).Nodup) (h0:∀ q∈E,0≤q.1) {q:Int × Bool} (hq:q∈E) (hl:q.1.toNat<n.length):(K7 E n).getD q.1.toNat 0=n.getD q.1.toNat 0+if q.2 then 1 else -1:=by
  induction E with
  | nil=>cases hq
  | cons p E ih=>
    rw[List.map_cons,List.nodup_cons] at hk;show(QG (K7 E n) p).getD _ 0=_;rw[QG,Qo,Z8];rcases List.mem_cons.1 hq with rfl|hq
    · rw[if_pos ⟨rfl,hl⟩,Xv];intro p' hp' he;have h1:=h0 p' (by simp[hp']);have h2:=h0 q (by simp);exact hk.1 (List.mem_map.2 ⟨p',hp',by omega⟩)
    · have hne:¬ q.1.toNat=p.1.toNat:=by
        intro he;have h1:=h0 q (by simp[hq]);have h2:=h0 p (by simp);exact hk.1 (List.mem_map.2 ⟨q,hq,by omega⟩)
      rw[if_neg (fun h=>hne h.1)];exact ih hk.2 (fun p' hp'=>h0 p' (by simp[hp'])) hq
theorem Path.kept (p:Path ws n A u vs v E) (hl:n.length=ws.length) (x:Int):kept ws (K7 E n) x=Go.Am.kept ws n x+dl v x - dl u x:=by
 induction p with
 | nil=>show Go.Am.kept ws n x=_; omega
 | @snoc vs v y E i more p s hy ih=>
  have hk:=(Path.snoc p s hy).keys;rw[List.map_cons,List.nodup_cons] at hk;have hot:(K7 E n).getD i 0=n.getD i 0:=by
   refine Xv ?_;intro q hq he;obtain⟨j,h1,_⟩:=p.ends q hq;refine hk.1 (List.mem_map.2 ⟨q,hq,?_⟩);rw[h1] at he⊢;simp only[Int.toNat_natCast] at he;rw[he]
  show Go.Am.kept ws (QG (K7 E n) ((i:Int),more)) x=_;unfold QG;simp only[Int.toNat_natCast];rw[UZ (by rw[Z8,hl]; exact s.1) s.1,ih,hot];have hs:=s.2.2
  cases more with
  | true=>
   simp only[if_true] at hs⊢;rw[hs.1,hs.2.1];have:n.getD i 0+1 - n.getD i 0=1:=by omega
   rw[this,Int.one_mul]; omega
  | false=>
   simp only[Bool.false_eq_true,if_false] at hs⊢;rw[hs.1,hs.2.1];have:n.getD i 0 + -1 - n.getD i 0 = -1:=by omega
   rw[this]; omega
theorem Path.within (p:Path ws n A u vs v E) (h:Within ws n):Within ws (K7 E n):=by
 have hk:=p.keys;have h0:∀ q∈E,0≤q.1:=fun q hq=>by obtain⟨j,h1,_⟩:=p.ends q hq; omega
 have key:∀ i,i<ws.length→(ws.getD i default).l≤(K7 E n).getD i 0∧(K7 E n).getD i 0≤(ws.getD i default).m:=by
  intro i hi;have h1:=h.lo i hi;have h2:=h.hi i hi;by_cases hm:∃ q∈E,q.1.toNat=i
  ·obtain⟨q,hq,rfl⟩:=hm;have h3:=pushE_at hk h0 hq (n:=n) (by rw[h.len]; exact hi);obtain⟨j,h4,h5,_,_,_,h6⟩:=p.ends q hq;have hj:q.1.toNat=j:=by omega
   rw[hj] at h1 h2 h3⊢;rw[h3];split at h6
   ·rename_i hm; rw[if_pos hm]; omega
   ·rename_i hm; rw[if_neg hm]; omega
  ·rw[Xv (fun q hq he=>hm ⟨q,hq,he⟩)];exact⟨h1,h2⟩
 exact⟨by rw[Z8,h.len],fun i hi=>(key i hi).1,fun i hi=>(key i hi).2⟩
theorem Path.same (p:Path ws n A u vs v E) {i:Nat} (hA:A i=false):(K7 E n).getD i 0=n.getD i 0:=by
 refine Xv ?_;intro q hq he;obtain⟨j,h4,_,h5,_⟩:=p.ends q hq;have:j=i:=by omega
 subst this;rw[hA] at h5; cases h5
end
def Vc (ws:List W) (n:List Int) (A:Nat→Bool) (R:Int→Prop):Prop:=∀ i,i<ws.length→A i=true→(R (ws.getD i default).f→n.getD i 0<(ws.getD i default).m→R (ws.getD i default).t)∧(R (ws.getD i default).t→(ws.getD i default).l<n.getD i 0→R (ws.getD i default).f)
theorem JZ {ws:List W} {n:List Int} {A:Nat→Bool} (u:Int):Vc ws n A (fun x=>∃ vs E,Path ws n A u vs x E):=by
 have short:∀ {vs v E},Path ws n A u vs v E→∀ x,x∈vs→∃ vs' E',Path ws n A u vs' x E':=by
  intro vs v E p
  induction p with
  | nil=>intro x hx; rw[List.mem_singleton] at hx; subst hx; exact⟨_,_,.nil⟩
  | @snoc vs v y E i more p s hy ih=>
   intro x hx;rcases List.mem_cons.1 hx with rfl|hx
   ·exact⟨_,_,.snoc p s hy⟩
   ·exact ih x hx
 intro i hi hA;constructor
 ·rintro⟨vs,E,p⟩ hlt;by_cases hm:(ws.getD i default).t∈vs
  ·exact short p _ hm
  ·exact⟨_,_,.snoc p (i:=i) (more:=true) ⟨hi,hA,by simp only[if_true]; exact⟨trivial,trivial,hlt⟩⟩ hm⟩
 ·rintro⟨vs,E,p⟩ hlt;by_cases hm:(ws.getD i default).f∈vs
  ·exact short p _ hm
  ·exact⟨_,_,.snoc p (i:=i) (more:=false) ⟨hi,hA,by simp only[Bool.false_eq_true,if_false]; exact⟨trivial,trivial,hlt⟩⟩ hm⟩
end Go.Am
namespace Go.Am
def bi (b:Bool):Int:=if b then 1 else 0
def QK (ws : List W) (n : List Int) (ρ : Int → Bool) : Nat → Int
  | 0=>0
  | i+1=>QK ws n ρ i+n.getD i 0*(bi (ρ (ws.getD i default).t) - bi (ρ (ws.getD i default).f))
def Ql (ρ : Int → Bool) (F : Int → Int) : Nat → Int
  | 0=>0
  | k+1=>Ql ρ F k+if ρ k then F k else 0
theorem Wc (ρ:Int→Bool) (F G:Int→Int):∀ k,Ql ρ (fun x=>F x+G x) k=Ql ρ F k+Ql ρ G k:=by
 intro k
 induction k with
 | zero=>rfl
 | succ k ih=>simp only[Ql,ih]; split <;> omega
theorem Wd (ρ:Int→Bool) (c:Int) (F:Int→Int):∀ k,Ql ρ (fun x=>c*F x) k=c*Ql ρ F k:=by
 intro k
 induction k with
 | zero=>simp[Ql]
 | succ k ih=>simp only[Ql,ih]; split <;> simp[Int.mul_add]
theorem sumR_dl (ρ:Int→Bool) {a:Int} (h0 : 0≤a):∀ k:Nat,Ql ρ (fun x=>dl a x) k=if a<k then bi (ρ a) else 0:=by
  intro k
  induction k with
  | zero=>rw[if_neg (by omega)]; rfl
  | succ k ih=>
    rw[Ql,ih];by_cases h:a=k
    · subst h;rw[if_neg (Int.lt_irrefl _),if_pos (show((k:Nat):Int)<((k+1:Nat):Int) by omega)];unfold dl bi;simp
    · have e:dl a k=0:=if_neg h;rw[e,ite_self,Int.add_zero];by_cases h2:a<k
      · rw[if_pos h2,if_pos (show a<((k+1:Nat):Int) by omega)]
      · rw[if_neg h2,if_neg (show¬ a<((k+1:Nat):Int) by omega)]
theorem Vz {ρ:Int→Bool} {F:Int→Int} (h:∀ x,F x=0):∀ k,Ql ρ F k=0:=by
 intro k
 induction k with
 | zero=>rfl
 | succ k ih=>rw[Ql,ih,h,ite_self]; rfl
theorem Yk {r:Nat} {ws:List W} (hr:InR r ws) (n:List Int) (ρ:Int→Bool):∀ k,k≤ws.length→Ql ρ (fun x=>KQ ws n x k) r=QK ws n ρ k:=by
  intro k
  induction k with
  | zero=>
    intro _;exact Vz (fun x=>rfl) r
  | succ k ih=>
    intro hk;obtain⟨h1,h2,h3,h4⟩:=hr k (by omega);have e:(fun x=>KQ ws n x (k+1))=fun x=>KQ ws n x k+n.getD k 0*(dl (ws.getD k default).t x + -1*dl (ws.getD k default).f x):=by
      funext x;rw[KQ];congr 2;omega
    rw[e,Wc,ih (by omega),Wd,Wc,Wd,sumR_dl ρ h3,sumR_dl ρ h1,if_pos h4,if_pos h2,QK];congr 2;omega
theorem UN {ws:List W} {n:List Int} {ρ:Int→Bool} (h:∀ x,ρ x=true):∀ k,QK ws n ρ k=0:=by
 intro k
 induction k with
 | zero=>rfl
 | succ k ih=>rw[QK,ih,h,h]; simp[bi]
theorem V9 {r:Int} {ws:List W} (hr:InR r ws) (n:List Int) {x:Int} (hx:x<0∨r≤x):∀ k,k≤ws.length→KQ ws n x k=0:=by
 intro k
 induction k with
 | zero=>intro _; rfl
 | succ k ih=>
  intro hk;obtain⟨h1,h2,h3,h4⟩:=hr k (by omega);rw[KQ,ih (by omega),dl,dl,if_neg (by omega),if_neg (by omega)];simp
def inS (s:Nat) (x:Int):Bool:=s.testBit x.toNat
def lvs (w:W) (s:Nat):Bool:=inS s w.f && !inS s w.t
def ens (w:W) (s:Nat):Bool:=!inS s w.f && inS s w.t
def VK (ws : List W) (s : Nat) : Nat → Int
  | 0=>0
  | i+1=>VK ws s i+(if lvs (ws.getD i default) s then (ws.getD i default).l else 0) - if ens (ws.getD i default) s then (ws.getD i default).m else 0
def X6 (ws:List W) (s:Nat):Bool:=decide (0<VK ws s ws.length)
def XE (r:Nat) (ws:List W):Bool:=(List.range (2 ^ r)).all fun s=>!X6 ws s
theorem canB_iff {r:Nat} {ws:List W}:XE r ws=true↔∀ s,s<2 ^ r→X6 ws s=false:=by
 unfold XE;rw[List.all_eq_true];exact⟨fun h s hs=>by have:=h s (List.mem_range.2 hs); simpa using this,fun h s hs=>by rw[h s (List.mem_range.1 hs)]; rfl⟩
theorem net_cross {ws:List W} {n:List Int} (h:Within ws n) (s:Nat):∀ k,k≤ws.length→VK ws s k≤-QK ws n (inS s) k:=by
 intro k
 induction k with
 | zero=>intro _; exact Int.le_refl _
 | succ k ih=>
  intro hk;have h0:=ih (by omega);have h1:=h.lo k (by omega);have h2:=h.hi k (by omega);rw[VK,QK];generalize ws.getD k default=w at *;generalize n.getD k 0=c at *;unfold lvs ens bi
  cases inS s w.f <;> cases inS s w.t <;> simp <;> omega
theorem proof_none {r:Nat} {ws:List W} (hr:InR r ws) {s:Nat} (hp:X6 ws s=true):¬ ∃ n,Flow ws n:=by
 rintro⟨n,hf⟩;have h1:=net_cross hf.toWithin s ws.length (Nat.le_refl _);have h2:=Yk hr n (inS s) ws.length (Nat.le_refl _);rw[Vz (fun x=>hf.kp x)] at h2;have h3:=of_decide_eq_true hp;omega
def Xr (ρ : Int → Bool) : Nat → Nat
  | 0=>0
  | k+1=>Xr ρ k+if ρ k then 2 ^ k else 0
theorem U3 (ρ:Int→Bool):∀ k,Xr ρ k<2 ^ k:=by
 intro k
 induction k with
 | zero=>exact Nat.one_pos
 | succ k ih=>rw[Xr,Nat.pow_succ]; split <;> omega
theorem maskB_bit (ρ:Int→Bool):∀ k i:Nat,(Xr ρ k).testBit i=(decide (i<k) && ρ i):=by
 intro k
 induction k with
 | zero=>intro i; simp[Xr]
 | succ k ih=>
  intro i;have hlt:=U3 ρ k;rw[Xr];by_cases hρ : ρ k=true
  ·rw[if_pos hρ,Nat.add_comm];by_cases hik:i=k
   ·subst hik;rw[Nat.testBit_two_pow_add_eq,Nat.testBit_lt_two_pow hlt];simp[hρ]
   ·by_cases hlt2:i<k
    ·rw[Nat.testBit_two_pow_add_gt hlt2,ih];simp[hlt2,show i<k+1 by omega]
    ·have hb : 2 ^ k+Xr ρ k<2 ^ i:=by
      have h2 : 2 ^ (k+1)≤2 ^ i:=Nat.pow_le_pow_right (by decide) (by omega);rw[Nat.pow_succ] at h2;omega
     rw[Nat.testBit_lt_two_pow hb];simp[show¬ i<k+1 by omega]
  ·have hρ : ρ k=false:=by simpa using hρ
   rw[if_neg (by simp[hρ]),Nat.add_zero,ih];by_cases hik:i=k
   ·subst hik; simp[hρ]
   ·by_cases hlt2:i<k
    ·simp[hlt2,show i<k+1 by omega]
    ·simp[hlt2,show¬ i<k+1 by omega]
theorem UY {ρ:Int→Bool} {r:Nat} {x:Int} (h0 : 0≤x) (h1:x<r):inS (Xr ρ r) x=ρ x:=by
 unfold inS;rw[maskB_bit,decide_eq_true (by omega),Bool.true_and];congr 1;omega
theorem cut_proof {r:Nat} {ws:List W} (hr:InR r ws) {n:List Int} (h:Within ws n) {ρ:Int→Bool} (hc:Vc ws n (fun _=>true) (fun x=>ρ x=true)) (hpos : 0<Ql ρ (fun x=>kept ws n x) r):X6 ws (Xr (fun x=>!ρ x) r)=true:=by
 have key:∀ k,k≤ws.length→VK ws (Xr (fun x=>!ρ x) r) k=QK ws n ρ k:=by
  intro k
  induction k with
  | zero=>intro _; rfl
  | succ k ih=>
   intro hk;obtain⟨h1,h2,h3,h4⟩:=hr k (by omega);obtain⟨c1,c2⟩:=hc k (by omega) rfl;have hl:=h.lo k (by omega);have hm:=h.hi k (by omega);rw[VK,QK,ih (by omega)];unfold lvs ens bi;rw[UY h1 h2,UY h3 h4]
   cases hf : ρ (ws.getD k default).f <;> cases ht : ρ (ws.getD k default).t
   ·simp
   ·have:¬ (ws.getD k default).l<n.getD k 0:=fun hlt=>by have this : ρ (ws.getD k default).f=true:=c2 ht hlt; rw[hf] at this; cases this
    simp only[Bool.not_false,Bool.not_true,Bool.and_true,Bool.and_false,if_true,Bool.false_eq_true,if_false];omega
   ·have:¬ n.getD k 0<(ws.getD k default).m:=fun hlt=>by have this : ρ (ws.getD k default).t=true:=c1 hf hlt; rw[ht] at this; cases this
    simp only[Bool.not_false,Bool.not_true,Bool.and_true,Bool.and_false,if_true,Bool.false_eq_true,if_false];omega
   ·simp
 unfold X6;rw[key _ (Nat.le_refl _),←Yk hr n ρ _ (Nat.le_refl _)];exact decide_eq_true hpos
def Zo (ws : List W) (n : List Int) : Nat → Nat
  | 0=>0
  | k+1=>Zo ws n k+(kept ws n k).natAbs
theorem UQ {ws:List W} {n n':List Int} {u v:Int} (hk:∀ x,kept ws n' x=kept ws n x+dl v x - dl u x) (hu : 0<kept ws n u) (hv:kept ws n v<0) (h0u : 0≤u) (h0v : 0≤v):∀ r:Nat,Zo ws n' r+((if u<r then 1 else 0)+if v<r then 1 else 0)=Zo ws n r:=by
  have hne:u≠v:=by rintro rfl; omega
  intro r
  induction r with
  | zero=>rw[if_neg (by omega),if_neg (by omega)]; rfl
  | succ r ih=>
    rw[Zo,Zo,hk];have cr:((r+1:Nat):Int)=(r:Int)+1:=by omega
    rw[cr];by_cases h1:u=r
    · have e1:dl u r=1:=if_pos h1;have e2:dl v r=0:=if_neg (fun h=>hne (h1.trans h.symm));have e3:(if u<(r:Int) then 1 else 0:Nat)=0:=if_neg (by omega);have e4:(if u<(r:Int)+1 then 1 else 0:Nat)=1:=if_pos (by omega);have e5:(if v<(r:Int)+1 then 1 else 0:Nat)=if v<(r:Int) then 1 else 0:=by
        by_cases h2:v<(r:Int)
        · rw[if_pos h2,if_pos (by omega)]
        · rw[if_neg h2,if_neg (by omega)]
      rw[h1] at hu;rw[e3] at ih;rw[e1,e2,e4,e5];omega
    · by_cases h2:v=r
      · have e1:dl u r=0:=if_neg h1;have e2:dl v r=1:=if_pos h2;have e3:(if v<(r:Int) then 1 else 0:Nat)=0:=if_neg (by omega);have e4:(if v<(r:Int)+1 then 1 else 0:Nat)=1:=if_pos (by omega);have e5:(if u<(r:Int)+1 then 1 else 0:Nat)=if u<(r:Int) then 1 else 0:=by
          by_cases h3:u<(r:Int)
          · rw[if_pos h3,if_pos (by omega)]
          · rw[if_neg h3,if_neg (by omega)]
        rw[h2] at hv;rw[e3] at ih;rw[e1,e2,e4,e5];omega
      · have e1:dl u r=0:=if_neg h1;have e2:dl v r=0:=if_neg h2;have e5:(if u<(r:Int)+1 then 1 else 0:Nat)=if u<(r:Int) then 1 else 0:=by
          by_cases h3:u<(r:Int)
          · rw[if_pos h3,if_pos (by omega)]
          · rw[if_neg h3,if_neg (by omega)]
        have e6:(if v<(r:Int)+1 then 1 else 0:Nat)=if v<(r:Int) then 1 else 0:=by
          by_cases h3:v<(r:Int)
          · rw[if_pos h3,if_pos (by omega)]
          · rw[if_neg h3,if_neg (by omega)]
        rw[e1,e2,e5,e6];have e7:kept ws n ↑r+0 - 0=kept ws n ↑r:=by omega
        rw[e7];omega
theorem UR {ws:List W} {n:List Int}:∀ {r:Nat},Zo ws n r=0→∀ x:Nat,x<r→kept ws n x=0:=by
 intro r
 induction r with
 | zero=>intro _ x hx; omega
 | succ r ih=>
  intro h x hx;rw[Zo] at h;rcases Nat.lt_succ_iff_lt_or_eq.1 hx with h1|rfl
  ·exact ih (by omega) x h1
  ·omega
theorem sumR_pos {ρ:Int→Bool} {F:Int→Int} {u:Nat} (hu : ρ u=true) (hF : 0<F u) (h:∀ x:Nat,ρ x=true→0≤F x):∀ r,u<r→0<Ql ρ F r:=by
 have h0:∀ r,0≤Ql ρ F r:=by
  intro r
  induction r with
  | zero=>exact Int.le_refl _
  | succ r ih=>
   rw[Ql];split
   ·rename_i hr; have:=h r hr; omega
   ·omega
 intro r
 induction r with
 | zero=>intro hr; omega
 | succ r ih=>
  intro hr;rw[Ql];rcases Nat.lt_succ_iff_lt_or_eq.1 hr with h1|rfl
  ·have:=ih h1;split
   ·rename_i hr; have:=h r hr; omega
   ·omega
  ·rw[if_pos hu]; have:=h0 u; omega
theorem sumR_some {F:Int→Int}:∀ {r:Nat},Ql (fun _=>true) F r=0→(∃ x:Nat,x<r∧F x≠0)→(∃ u:Nat,u<r∧0<F u)∧∃ v:Nat,v<r∧F v<0:=by
  intro r hs hx;have hpos:(∀ u:Nat,u<r→F u≤0)→(∃ x:Nat,x<r∧F x≠0)→Ql (fun _=>true) F r<0:=by
    clear hs hx
    induction r with
    | zero=>rintro _ ⟨x,hx,_⟩; omega
    | succ r ih=>
      intro h ⟨x,hx,hne⟩;have hr:=h r (by omega);have hle:Ql (fun _=>true) F r≤0:=by
        by_cases hex:∃ y:Nat,y<r∧F y≠0
        · exact Int.le_of_lt (ih (fun u hu=>h u (by omega)) hex)
        · have:∀ k,k≤r→Ql (fun _=>true) F k=0:=by
            intro k
            induction k with
            | zero=>intro _; rfl
            | succ k ih2=>
              intro hk;rw[Ql,ih2 (by omega),if_pos rfl];have:F k=0:=Classical.byContradiction fun hne=>hex ⟨k,by omega,hne⟩
              omega
          rw[this r (Nat.le_refl _)]; exact Int.le_refl _
      rw[Ql,if_pos rfl];rcases Nat.lt_succ_iff_lt_or_eq.1 hx with h1|rfl
      · have:=ih (fun u hu=>h u (by omega)) ⟨x,h1,hne⟩;omega
      · omega
  have hneg:(∀ u:Nat,u<r→0≤F u)→(∃ x:Nat,x<r∧F x≠0)→0<Ql (fun _=>true) F r:=by
    intro h ⟨x,hx,hne⟩;have hnn:∀ k,k≤r→0≤Ql (fun _=>true) F k:=by
      intro k
      induction k with
      | zero=>intro _; exact Int.le_refl _
      | succ k ih=>intro hk; rw[Ql,if_pos rfl]; have:=ih (by omega); have:=h k (by omega); omega
    have:∀ k,x<k→k≤r→0<Ql (fun _=>true) F k:=by
      intro k
      induction k with
      | zero=>intro h1; omega
      | succ k ih=>
        intro h1 hk;rw[Ql,if_pos rfl];have h2:=h k (by omega);rcases Nat.lt_succ_iff_lt_or_eq.1 h1 with h3|rfl
        · have:=ih h3 (by omega); omega
        · have:=hnn x (by omega); have:=h x hx; omega
    exact this r hx (Nat.le_refl _)
  constructor
  · apply Classical.byContradiction;intro hno;have:=hpos (fun u hu=>by
      have:¬ 0<F u:=fun hp=>hno ⟨u,hu,hp⟩
      omega) hx
    omega
  · apply Classical.byContradiction;intro hno;have:=hneg (fun u hu=>by
      have:¬ F u<0:=fun hp=>hno ⟨u,hu,hp⟩
      omega) hx
    omega
theorem kept_sum {r:Nat} {ws:List W} (hr:InR r ws) (n:List Int):Ql (fun _=>true) (fun x=>kept ws n x) r=0:=by
 rw[Yk hr n _ _ (Nat.le_refl _),UN (fun _=>rfl)]
open Classical in
theorem Va {r : Nat} {ws : List W} (hr : InR r ws) {n : List Int} (h : Within ws n) (hne : Zo ws n r ≠ 0) :
    (∃ u v:Nat,u<r∧v<r∧0<kept ws n u∧kept ws n v<0∧∃ vs E,Path ws n (fun _=>true) u vs v E)∨∃ s,s<2 ^ r∧X6 ws s=true:=by
  have hex:∃ x:Nat,x<r∧kept ws n x≠0:=by
    apply Classical.byContradiction;intro hno;apply hne;have:∀ k,k≤r→Zo ws n k=0:=by
      intro k
      induction k with
      | zero=>intro _; rfl
      | succ k ih=>
        intro hk;have h0:kept ws n k=0:=Classical.byContradiction fun hne=>hno ⟨k,by omega,hne⟩
        rw[Zo,ih (by omega),h0]; rfl
    exact this r (Nat.le_refl _)
  obtain⟨⟨u,hu,hpu⟩,_⟩:=sumR_some (kept_sum hr n) hex;by_cases hp:∃ v:Nat,v<r∧kept ws n v<0∧∃ vs E,Path ws n (fun _=>true) u vs v E
  · obtain⟨v,h1,h2,h3⟩:=hp;exact .inl ⟨u,v,hu,h1,hpu,h2,h3⟩
  · right;have hcl:=JZ (ws:=ws) (n:=n) (A:=fun _=>true) (u:Int);have e:(fun x:Int=>(decide (∃ vs E,Path ws n (fun _=>true) u vs x E))=true)=fun x=>∃ vs E,Path ws n (fun _=>true) u vs x E:=by
      funext x;exact decide_eq_true_eq
    refine⟨_,U3 _ r,cut_proof hr h (ρ:=fun x=>decide (∃ vs E,Path ws n (fun _=>true) u vs x E)) (by rw[e]; exact hcl) ?_⟩;refine sumR_pos (u:=u) (decide_eq_true ⟨_,_,.nil⟩) hpu ?_ r hu;intro x hx;have hx:=of_decide_eq_true hx;by_cases hxr:x<r
    · have:¬ kept ws n x<0:=fun hlt=>hp ⟨x,hxr,hlt,hx⟩
      omega
    · have:kept ws n x=0:=V9 hr n (.inr (by omega)) _ (Nat.le_refl _);omega
theorem Wp {r:Nat} {ws:List W} (hr:InR r ws) (hc:XE r ws=true):∀ (d:Nat) (n:List Int),Zo ws n r=d→Within ws n→∃ n',Flow ws n':=by
 intro d
 induction d using Nat.strongRecOn with
 | _ d ih=>
  intro n hd h;by_cases h0:d=0
  ·subst h0;refine⟨n,h,?_⟩;intro x;by_cases hx:x<0∨(r:Int)≤x
   ·exact V9 hr n hx _ (Nat.le_refl _)
   ·have:=UR hd x.toNat (by omega);rwa [show((x.toNat:Nat):Int)=x by omega] at this
  ·rcases Va hr h (by omega) with ⟨u,v,hu,hv,hpu,hpv,vs,E,p⟩|⟨s,hs,hp⟩
   ·have hdv:=UQ (n':=K7 E n) (fun x=>p.kept h.len x) hpu hpv (by omega) (by omega) r;rw[if_pos (by omega),if_pos (by omega)] at hdv;exact ih (Zo ws (K7 E n) r) (by omega) _ rfl (p.within h)
   ·rw[canB_iff.1 hc s hs] at hp; cases hp
theorem JV {r:Nat} {ws:List W} (hr:InR r ws) (hl:∀ i,i<ws.length→(ws.getD i default).l≤(ws.getD i default).m):XE r ws=true↔∃ n,Flow ws n:=by
  constructor
  · intro hc;have hg:∀ i,(ws.map (·.l)).getD i 0=if i<ws.length then (ws.getD i default).l else 0:=by
      intro i;rw[List.getD_eq_getElem?_getD,List.getElem?_map,List.getD_eq_getElem?_getD];by_cases hi:i<ws.length
      · rw[List.getElem?_eq_getElem hi,if_pos hi]; rfl
      · rw[List.getElem?_eq_none (by omega),if_neg hi]; rfl
    refine Wp hr hc _ (ws.map (·.l)) rfl ⟨by simp,?_,?_⟩
    · intro i hi; rw[hg,if_pos hi]; exact Int.le_refl _
    · intro i hi; rw[hg,if_pos hi]; exact hl i hi
  · intro hf;refine canB_iff.2 fun s _=>?_
    cases hp:X6 ws s with
    | false=>rfl
    | true=>exact absurd hf (proof_none hr hp)
end Go.Am
namespace Go.Am
theorem Jo {ws : List W} {n n' : List Int} {A : Nat → Bool} {ρ : Int → Bool} {i : Nat} (h : Within ws n) (h' : Within ws n') (hc : Vc ws n A (fun x => ρ x = true)) (hA : A i = false) (hs : ∀ k, k < ws.length → A k = false → k ≠ i → n'.getD k 0 = n.getD k 0) :
    ∀ k,k≤ws.length→QK ws n ρ k+(if i<k then (n'.getD i 0 - n.getD i 0)*(bi (ρ (ws.getD i default).t) - bi (ρ (ws.getD i default).f)) else 0)≤QK ws n' ρ k:=by
  intro k
  induction k with
  | zero=>intro _; rw[if_neg (by omega)]; exact Int.le_refl _
  | succ k ih=>
    intro hk;have h0:=ih (by omega);rw[QK,QK];by_cases hik:i=k
    · subst hik;rw[if_neg (Nat.lt_irrefl _)] at h0;rw[if_pos (Nat.lt_succ_self _),Int.sub_mul];omega
    · have h1:n.getD k 0*(bi (ρ (ws.getD k default).t) - bi (ρ (ws.getD k default).f))≤n'.getD k 0*(bi (ρ (ws.getD k default).t) - bi (ρ (ws.getD k default).f)):=by
        cases hAk:A k with
        | false=>rw[hs k (by omega) hAk (fun h=>hik h.symm)]; exact Int.le_refl _
        | true=>
          obtain⟨c1,c2⟩:=hc k (by omega) hAk;have l1:=h.lo k (by omega);have l2:=h.hi k (by omega);have l3:=h'.lo k (by omega);have l4:=h'.hi k (by omega);have c1 : ρ (ws.getD k default).f=true→n.getD k 0<(ws.getD k default).m→ρ (ws.getD k default).t=true:=c1;have c2 : ρ (ws.getD k default).t=true→(ws.getD k default).l<n.getD k 0→ρ (ws.getD k default).f=true:=c2;generalize ws.getD k default=w at *;generalize n.getD k 0=a at *;generalize n'.getD k 0=b at *
          cases hf : ρ w.f <;> cases ht : ρ w.t
          · simp[bi]
          · have:¬ w.l<a:=fun hlt=>by have:=c2 ht hlt; rw[hf] at this; cases this
            simp[bi]; omega
          · have:¬ a<w.m:=fun hlt=>by have:=c1 hf hlt; rw[ht] at this; cases this
            simp[bi]; omega
          · simp[bi]
      by_cases h2:i<k
      · rw[if_pos h2] at h0; rw[if_pos (by omega)]; omega
      · rw[if_neg h2] at h0; rw[if_neg (by omega)]; omega
theorem XK {r:Nat} {ws:List W} (hr:InR r ws) {n:List Int} (hf:Flow ws n) (ρ:Int→Bool):QK ws n ρ ws.length=0:=by
 rw[←Yk hr n ρ _ (Nat.le_refl _)];exact Vz (fun x=>hf.kp x) r
theorem cut_least {r : Nat} {ws : List W} (hr : InR r ws) {n n' : List Int} {A : Nat → Bool} {ρ : Int → Bool} {i : Nat} (hf : Flow ws n) (hf' : Flow ws n') (hi : i < ws.length) (hc : Vc ws n A (fun x => ρ x = true)) (hA : A i = false) (hs : ∀ k, k < ws.length → A k = false → k ≠ i → n'.getD k 0 = n.getD k 0)
    (h1 : ρ (ws.getD i default).f=true) (h2 : ρ (ws.getD i default).t=false):n.getD i 0≤n'.getD i 0:=by
  have h:=Jo hf.toWithin hf'.toWithin hc hA hs ws.length (Nat.le_refl _);rw[if_pos hi,XK hr hf,XK hr hf',h1,h2] at h;simp only[bi,Bool.false_eq_true,if_true,if_false] at h;omega
theorem cut_most {r : Nat} {ws : List W} (hr : InR r ws) {n n' : List Int} {A : Nat → Bool} {ρ : Int → Bool} {i : Nat} (hf : Flow ws n) (hf' : Flow ws n') (hi : i < ws.length) (hc : Vc ws n A (fun x => ρ x = true)) (hA : A i = false) (hs : ∀ k, k < ws.length → A k = false → k ≠ i → n'.getD k 0 = n.getD k 0)
    (h1 : ρ (ws.getD i default).t=true) (h2 : ρ (ws.getD i default).f=false):n'.getD i 0≤n.getD i 0:=by
  have h:=Jo hf.toWithin hf'.toWithin hc hA hs ws.length (Nat.le_refl _);rw[if_pos hi,XK hr hf,XK hr hf',h1,h2] at h;simp only[bi,Bool.false_eq_true,if_true,if_false] at h;omega
def ZY (ws:List W) (i:Nat) (v:Int):List W:=ws.set i {(ws.getD i default) with l:=v,m:=v}
theorem Qx (ws:List W) (i:Nat) (v:Int):(ZY ws i v).length=ws.length:=by simp[ZY]
theorem Zl {ws:List W} {i:Nat} {v:Int} (hi:i<ws.length) (k:Nat):(ZY ws i v).getD k default=if k=i then {(ws.getD i default) with l:=v,m:=v} else ws.getD k default:=by
  unfold ZY;rw[List.getD_eq_getElem?_getD,List.getElem?_set];by_cases h:i=k
  · subst h; rw[if_pos rfl,if_pos hi,if_pos rfl]; rfl
  · rw[if_neg h,if_neg (fun h2=>h h2.symm),List.getD_eq_getElem?_getD]
theorem JO {ws:List W} {i:Nat} {v:Int} (hi:i<ws.length) (n:List Int) (x:Int):∀ k,KQ (ZY ws i v) n x k=KQ ws n x k:=by
 intro k
 induction k with
 | zero=>rfl
 | succ k ih=>
  rw[KQ,KQ,ih,Zl hi];by_cases h:k=i
  ·subst h; rw[if_pos rfl]
  ·rw[if_neg h]
theorem withW_inR {r:Int} {ws:List W} {i:Nat} {v:Int} (hi:i<ws.length) (hr:InR r ws):InR r (ZY ws i v):=by
 intro k hk;rw[Qx] at hk;rw[Zl hi];by_cases h:k=i
 ·subst h; rw[if_pos rfl]; exact hr k hk
 ·rw[if_neg h]; exact hr k hk
theorem Uc {ws:List W} {i:Nat} {v:Int} (hi:i<ws.length) (h1:(ws.getD i default).l≤v) (h2:v≤(ws.getD i default).m) {n:List Int}:Flow (ZY ws i v) n↔Flow ws n∧n.getD i 0=v:=by
 constructor
 ·intro h;have e:n.getD i 0=v:=by
   have l1:=h.lo i (by rw[Qx]; exact hi);have l2:=h.hi i (by rw[Qx]; exact hi);rw[Zl hi,if_pos rfl] at l1 l2;have l1:v≤n.getD i 0:=l1;have l2:n.getD i 0≤v:=l2;omega
  refine⟨⟨⟨by rw[h.len,Qx],?_,?_⟩,?_⟩,e⟩
  ·intro k hk;have:=h.lo k (by rw[Qx]; exact hk);rw[Zl hi] at this;by_cases hki:k=i
   ·subst hki; rw[e]; exact h1
   ·rw[if_neg hki] at this; exact this
  ·intro k hk;have:=h.hi k (by rw[Qx]; exact hk);rw[Zl hi] at this;by_cases hki:k=i
   ·subst hki; rw[e]; exact h2
   ·rw[if_neg hki] at this; exact this
  ·intro x;have:=h.kp x;rw[kept,Qx,JO hi] at this;exact this
 ·rintro⟨h,e⟩;refine⟨⟨by rw[h.len,Qx],?_,?_⟩,?_⟩
  ·intro k hk;rw[Qx] at hk;rw[Zl hi];by_cases hki:k=i
   ·subst hki; rw[if_pos rfl]; exact Int.le_of_eq e.symm
   ·rw[if_neg hki]; exact h.lo k hk
  ·intro k hk;rw[Qx] at hk;rw[Zl hi];by_cases hki:k=i
   ·subst hki; rw[if_pos rfl]; exact Int.le_of_eq e
   ·rw[if_neg hki]; exact h.hi k hk
  ·intro x;rw[kept,Qx,JO hi];exact h.kp x
def LM (ws:List W):Prop:=∀ i,i<ws.length→(ws.getD i default).l≤(ws.getD i default).m
theorem withW_LM {ws:List W} {i:Nat} {v:Int} (hi:i<ws.length) (h:LM ws):LM (ZY ws i v):=by
 intro k hk;rw[Qx] at hk;rw[Zl hi];by_cases hki:k=i
 ·subst hki; rw[if_pos rfl]; exact Int.le_refl _
 ·rw[if_neg hki]; exact h k hk
theorem YP {r:Nat} {ws:List W} {i:Nat} {v:Int} (hr:InR r ws) (hl:LM ws) (hi:i<ws.length) (h1:(ws.getD i default).l≤v) (h2:v≤(ws.getD i default).m):XE r (ZY ws i v)=true↔∃ n,Flow ws n∧n.getD i 0=v:=by
 rw[JV (withW_inR hi hr) (withW_LM hi hl)];exact⟨fun⟨n,hn⟩=>⟨n,(Uc hi h1 h2).1 hn⟩,fun⟨n,hn⟩=>⟨n,(Uc hi h1 h2).2 hn⟩⟩
theorem Jt {α:Type} {P : α→Prop} (f : α→Nat) (h:∃ a,P a):∃ a,P a∧∀ b,P b→f a≤f b:=by
 obtain⟨a,ha⟩:=h;have:∀ k a,P a→f a=k→∃ a,P a∧∀ b,P b→f a≤f b:=by
  intro k
  induction k using Nat.strongRecOn with
  | _ k ih=>
   intro a ha hk;by_cases hb:∃ b,P b∧f b<f a
   ·obtain⟨b,hb,hlt⟩:=hb;exact ih (f b) (by omega) b hb rfl
   ·refine⟨a,ha,fun b hb'=>?_⟩;have:¬ f b<f a:=fun h=>hb ⟨b,hb',h⟩
    omega
 exact this _ a ha rfl
def IsLo (ws:List W) (i:Nat) (v:Int):Prop:=(∃ n,Flow ws n∧n.getD i 0=v)∧∀ n,Flow ws n→v≤n.getD i 0
def IsHi (ws:List W) (i:Nat) (v:Int):Prop:=(∃ n,Flow ws n∧n.getD i 0=v)∧∀ n,Flow ws n→n.getD i 0≤v
theorem IsLo.uniq {ws:List W} {i:Nat} {v v':Int} (h:IsLo ws i v) (h':IsLo ws i v'):v=v':=by
 obtain⟨⟨n,hn,rfl⟩,h2⟩:=h;obtain⟨⟨n',hn',rfl⟩,h2'⟩:=h';have:=h2 n' hn'; have:=h2' n hn; omega
theorem IsHi.uniq {ws:List W} {i:Nat} {v v':Int} (h:IsHi ws i v) (h':IsHi ws i v'):v=v':=by
 obtain⟨⟨n,hn,rfl⟩,h2⟩:=h;obtain⟨⟨n',hn',rfl⟩,h2'⟩:=h';have:=h2 n' hn'; have:=h2' n hn; omega
end Go.Am
