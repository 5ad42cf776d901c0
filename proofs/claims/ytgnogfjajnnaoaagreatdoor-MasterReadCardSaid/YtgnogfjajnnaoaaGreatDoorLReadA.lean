/-
  MasterRead: whatever the year, the cut, the change and the swap, the Go function returns true: a file is what Read reads, and what is read of a cut or changed one is nothing or a book with that file.
  Conditions: none.
-/
import Derived.Test.YtgnogfjajnnaoaaGreatDoorRows
import Derived.Test.YtgnogfjajnnaoaaGreatDoorCac
import Derived.Test.YtgnogfjajnnaoaaGreatDoorSzp
import Derived.WalkKit
import Derived.ProofKit
import Derived.OpenShut
import Derived.ShutString
import Derived.ChangeOld
import Derived.Below
import Derived.Carry
import Derived.LaidMore
import Derived.Lay
import Derived.LaidLaws
import Derived.Stop.Joined
import Derived.SevenTiedAt
import Derived.Test.YtgnogfjajnnaoaaGreatDoorCards
import Derived.Test.YtgnogfjajnnaoaaGreatDoorTie
namespace Go.Proofs.YtgnogfjajnnaoaaGreatDoor.masterRead
open Go.ChangeShapes Go.WideShapes Go.ChangeAt Go.RowKit Go.Am
theorem own:ownKnob Tryz.prog.godebug=none:=by kernel_rfl
theorem laid:laidOutB Tryz.prog=true:=by kernel_rfl
theorem zipped (os:Os):World.variablesZipB Tryz.checked.prog ((World.laidAll Tryz.prog os laidL).forCall (fun _ _=>0) ⟨#[],#[.slice none 0 0,.int .u16 0,.int .u8 0,.bool false],[]⟩)=true:=by kernel_rfl
theorem begun (os:Os):List.take ((begin Tryz.checked.prog (fun _ _=>0) default).world.heap.size - Tryz.checked.prog.globals.size) (List.drop Tryz.checked.prog.globals.size (((World.laidAll Tryz.prog os laidL).forCall (fun _ _=>0) ⟨#[],#[.slice none 0 0,.int .u16 0,.int .u8 0,.bool false],[]⟩)).heap.toList)=List.drop Tryz.checked.prog.globals.size (begin Tryz.checked.prog (fun _ _=>0) default).world.heap.toList:=by kernel_rfl
theorem laidFits (os:Os):World.layFits Tryz.prog (World.holding Tryz.prog os ⟨#[],#[],[]⟩) laidL []=true:=by kernel_rfl
theorem laidIfaces (os:Os):World.layIfaces Tryz.prog (World.holding Tryz.prog os ⟨#[],#[],[]⟩) laidL (World.laidAll Tryz.prog os laidL)=true:=by kernel_rfl
theorem noInits:Tryz.checked.prog.inits.idxOf? 10=none:=by kernel_rfl
set_option maxRecDepth 100000 in
theorem lifted (os : Os) (started : os.Started) (H : Type) (enc : TypeId × Value → H) :
    ReturnsInHanded {} Tryz.checked os 10 .any (fun w args => (Rows.masterReadSpec.pre enc Tryz.prog Tryz.f10 [] false w args ∧ laidMetH Tryz.prog laidL w) ∧ sizedMet enc Tryz.prog Tryz.f10 (OpenSpec.ofChange Rows.masterReadSpec) false w args)
      (Rows.masterReadSpec.post enc Tryz.prog Tryz.f10 false true false false):=by
 refine returnsInHanded_of_change_andShaped (C := Tryz.checked) (X := fun w _ => laidMetH Tryz.prog laidL w) (fun _ _ _ hh h => h.of_heap hh) own started noInits Tryz.func10
   (ChangeSpec.witness_shaped (enc:=enc) (C:=Tryz.checked) (os:=os) (X:=fun w _=>laidMetH Tryz.prog laidL w) false (World.laidAll Tryz.prog os laidL) #[.slice none 0 0,.int .u16 0,.int .u8 0,.bool false] 8 (World.laidAll_os _ _ _) (World.shaped_of_ZipB (zipped os) (begun os)) (by kernel_rfl) (by kernel_rfl) (by kernel_rfl) (by rw[MakeChecks.laidMetH_plain _ _ _ (by kernel_rfl)]; exact laidMet_laidAll _ (laidFits os) (laidIfaces os))) ?_
 intro W base args ds gs before hval0 hW _ _ hL hsh _;have hval:∀ (j:Nat) t v,Tryz.f10.params[j]? = some t→args[j]? = some v→Value.okWide Tryz.prog W .any base t v:=hval0;have hW':=hW;obtain⟨p,q,hA0,hV,rfl,hfz,hnd⟩:=hW;have hA:DataW.TrodAll enc Tryz.prog W 0 (fun _=>true) true Tryz.f10.params.toList args.toList ds p:=hA0;rw[Tryz.params10] at hA hval;obtain⟨v0,vs0,d0,ds0,p0,q0,hargs,rfl,rfl,h0,r0⟩:=trodAll_cons hA;obtain⟨v1,vs1,d1,ds1,p1,q1,rfl,rfl,rfl,h1,r1⟩:=trodAll_cons r0;obtain⟨v2,vs2,d2,ds2,p2,q2,rfl,rfl,rfl,h2,r2⟩:=trodAll_cons r1;obtain⟨v3,vs3,d3,ds3,p3,q3,rfl,rfl,rfl,h3,r3⟩:=trodAll_cons r2;obtain⟨rfl,rfl,rfl⟩:=trodAll_nil r3;obtain rfl:args = #[v0,v1,v2,v3]:=by cases args; simp_all
 obtain⟨rfl,rfl⟩:=trodVars_none hV;clear hA0 hval0;have hlt0:∀ x∈p0,x.block<W.heap.size:=fun x hx=>hW'.lt x (by simp[hx])
 have hlt1:∀ x∈p1,x.block<W.heap.size:=fun x hx=>hW'.lt x (by simp[hx])
 have hlt2:∀ x∈p2,x.block<W.heap.size:=fun x hx=>hW'.lt x (by simp[hx])
 have hlt3:∀ x∈p3,x.block<W.heap.size:=fun x hx=>hW'.lt x (by simp[hx])
 obtain⟨φ0,hp0,im0,hz0⟩:=vs_laid hL hsh;obtain⟨φ1,hp1,av1,x1,im1,le1,k1,hv1,hE1⟩:=imp_one (ic_year (enc:=enc)) im0 (cells_of_slice Tryz.underlying53 (hval 0 53 v0 rfl rfl)) h0;obtain⟨φ2,hp2,av2,x2,im2,le2,k2,hv2,hE2⟩:=imp_one (IC.int Tryz.underlying72) im1 (cells_of_int Tryz.underlying72 (hval 1 72 v1 rfl rfl)) h1;obtain⟨he2,hw2⟩:=hE2;cases he2;have hv1:=hv1.mono le2;have hE1:=(ic_year (enc:=enc)).mono _ _ _ _ k2 hE1;obtain⟨φ3,hp3,av3,x3,im3,le3,k3,hv3,hE3⟩:=imp_one (IC.int Tryz.underlying5) im2 (cells_of_int Tryz.underlying5 (hval 2 5 v2 rfl rfl)) h2;obtain⟨he3,hw3⟩:=hE3;cases he3;have hv1:=hv1.mono le3;have hE1:=(ic_year (enc:=enc)).mono _ _ _ _ k3 hE1;have hv2:=hv2.mono le3;obtain⟨φ4,hp4,av4,x4,im4,le4,k4,hv4,hE4⟩:=imp_one (IC.bool Tryz.underlying4) im3 (cells_of_bool Tryz.underlying4 (hval 3 4 v3 rfl rfl)) h3;cases hE4;have hv1:=hv1.mono le4;have hE1:=(ic_year (enc:=enc)).mono _ _ _ _ k4 hE1;have hv2:=hv2.mono le4;have hv3:=hv3.mono le4;have hz1:=hz0.ext k1;have hz2:=hz1.ext k2;have hz3:=hz2.ext k3;have hz4:=hz3.ext k4;obtain⟨ys1,hr1,ho1⟩:=year_of hE1;refine(ACalls.law (law_read hr1 ho1 hw2 hw3 hz4) (fun r _ h=>h.1) im4 (vrels_cons hv1 (vrels_cons hv2 (vrels_cons hv3 (vrels_cons hv4 vrels_nil))))).mono fun e W' ⟨he,bel⟩=>?_
 subst he;exact⟨_,rfl,_,_,_,[],_,[],hW',trodAll_mk1 (shut_bool Tryz.underlying4 _),(trodAll_cons_mk (Below.trod laid (by kernel_rfl) (of_decide_eq_true (by kernel_rfl)) h0 bel hlt0) (trodAll_cons_mk (Below.trod laid (by kernel_rfl) (of_decide_eq_true (by kernel_rfl)) h1 bel hlt1) (trodAll_cons_mk (Below.trod laid (by kernel_rfl) (of_decide_eq_true (by kernel_rfl)) h2 bel hlt2) (trodAll_cons_mk (Below.trod laid (by kernel_rfl) (of_decide_eq_true (by kernel_rfl)) h3 bel hlt3) trodAll_mk0)))),rfl,bel.frame _,fun h=>by cases h⟩
set_option maxHeartbeats 4000000 in
theorem facts:joinedFacts Tryz.pinned.checked.prog 10 Tryz.f10 Rows.masterReadSpec Rows.masterReadRow=true:=by
 unfold joinedFacts;simp only[Bool.and_eq_true];refine⟨⟨⟨⟨⟨⟨⟨⟨⟨⟨⟨⟨⟨⟨⟨⟨⟨⟨⟨⟨⟨⟨⟨⟨⟨⟨⟨⟨⟨⟨⟨?_,?_⟩,?_⟩,?_⟩,?_⟩,?_⟩,?_⟩,?_⟩,?_⟩,?_⟩,?_⟩,?_⟩,?_⟩,?_⟩,?_⟩,?_⟩,?_⟩,?_⟩,?_⟩,?_⟩,?_⟩,?_⟩,?_⟩,?_⟩,?_⟩,?_⟩,?_⟩,?_⟩,?_⟩,?_⟩,?_⟩,?_⟩
 all_goals as_aux_lemma=>kernel_rfl
theorem wrapped:Tryz.f10.isWrapper Tryz.pinned.checked.prog Rows.masterReadRow.wrapper Rows.masterReadRow.mainSum:=by unfold Func.isWrapper; first|(rw[if_pos (by decide +kernel)]; kernel_rfl)|(rw[if_neg (by decide +kernel)]; exact⟨rfl,rfl⟩)
theorem inst:Tryz.f10.isInstance Tryz.pinned.checked.prog Rows.masterReadRow.origin Rows.masterReadRow.targs:=of_decide_eq_true (by kernel_rfl)
theorem named:Tryz.pinned.checked.prog.funcNamed Rows.masterReadRow.func=some 10:=by kernel_rfl
theorem over:Rows.masterReadRow.holds Tryz.pinned (OpenSpec.ofChange Rows.masterReadSpec):=
  OpenClaim.holds_of_wide 10 Tryz.f10 rfl rfl rfl rfl rfl rfl rfl ⟨rfl, rfl, rfl, rfl, rfl⟩ rfl rfl rfl rfl rfl named Tryz.func10 facts inst wrapped
    (fun os started H enc _=>lifted os started H enc)
end Go.Proofs.YtgnogfjajnnaoaaGreatDoor.masterRead
