/-
  MasterPacks: whatever the year, the Go function returns true: each pack is bare, sealed, dealt or burnt, as told, and ways have the packs that are there.
  Conditions: none.
-/
import Derived.Test.YtgnogfjajnnaoaaGreatDoorRows
import Derived.Test.YtgnogfjajnnaoaaGreatDoorAnj
import Derived.Test.YtgnogfjajnnaoaaGreatDoorCaq
import Derived.WalkKit
import Derived.ProofKit
import Derived.OpenShut
import Derived.ShutString
import Derived.ChangeOld
import Derived.Below
import Derived.Carry
import Derived.LaidMore
import Derived.Lay
import Derived.LaidLaws
import Derived.Stop.Joined
import Derived.SevenTiedAt
import Derived.Test.YtgnogfjajnnaoaaGreatDoorCards
import Derived.Test.YtgnogfjajnnaoaaGreatDoorTie
namespace Go.Proofs.YtgnogfjajnnaoaaGreatDoor.masterPacks
open Go.ChangeShapes Go.WideShapes Go.ChangeAt Go.RowKit Go.Am
theorem own:ownKnob Tryz.prog.godebug=none:=by kernel_rfl
theorem laid:laidOutB Tryz.prog=true:=by kernel_rfl
theorem zipped (os:Os):World.variablesZipB Tryz.checked.prog ((World.laidAll Tryz.prog os laidE).forCall (fun _ _=>0) ⟨#[],#[.slice none 0 0],[]⟩)=true:=by kernel_rfl
theorem begun (os:Os):List.take ((begin Tryz.checked.prog (fun _ _=>0) default).world.heap.size - Tryz.checked.prog.globals.size) (List.drop Tryz.checked.prog.globals.size (((World.laidAll Tryz.prog os laidE).forCall (fun _ _=>0) ⟨#[],#[.slice none 0 0],[]⟩)).heap.toList)=List.drop Tryz.checked.prog.globals.size (begin Tryz.checked.prog (fun _ _=>0) default).world.heap.toList:=by kernel_rfl
theorem laidFits (os:Os):World.layFits Tryz.prog (World.holding Tryz.prog os ⟨#[],#[],[]⟩) laidE []=true:=by kernel_rfl
theorem laidIfaces (os:Os):World.layIfaces Tryz.prog (World.holding Tryz.prog os ⟨#[],#[],[]⟩) laidE (World.laidAll Tryz.prog os laidE)=true:=by kernel_rfl
theorem noInits:Tryz.checked.prog.inits.idxOf? 12=none:=by kernel_rfl
set_option maxRecDepth 100000 in
theorem lifted (os : Os) (started : os.Started) (H : Type) (enc : TypeId × Value → H) :
    ReturnsInHanded {} Tryz.checked os 12 .any (fun w args => (Rows.masterPacksSpec.pre enc Tryz.prog Tryz.f12 [] false w args ∧ laidMetH Tryz.prog laidE w) ∧ sizedMet enc Tryz.prog Tryz.f12 (OpenSpec.ofChange Rows.masterPacksSpec) false w args)
      (Rows.masterPacksSpec.post enc Tryz.prog Tryz.f12 false true false false):=by
 refine returnsInHanded_of_change_andShaped (C := Tryz.checked) (X := fun w _ => laidMetH Tryz.prog laidE w) (fun _ _ _ hh h => h.of_heap hh) own started noInits Tryz.func12
   (ChangeSpec.witness_shaped (enc:=enc) (C:=Tryz.checked) (os:=os) (X:=fun w _=>laidMetH Tryz.prog laidE w) false (World.laidAll Tryz.prog os laidE) #[.slice none 0 0] 8 (World.laidAll_os _ _ _) (World.shaped_of_ZipB (zipped os) (begun os)) (by kernel_rfl) (by kernel_rfl) (by kernel_rfl) (by rw[MakeChecks.laidMetH_plain _ _ _ (by kernel_rfl)]; exact laidMet_laidAll _ (laidFits os) (laidIfaces os))) ?_
 intro W base args ds gs before hval0 hW _ _ hL hsh _;have hval:∀ (j:Nat) t v,Tryz.f12.params[j]? = some t→args[j]? = some v→Value.okWide Tryz.prog W .any base t v:=hval0;have hW':=hW;obtain⟨p,q,hA0,hV,rfl,hfz,hnd⟩:=hW;have hA:DataW.TrodAll enc Tryz.prog W 0 (fun _=>true) true Tryz.f12.params.toList args.toList ds p:=hA0;rw[Tryz.params12] at hA hval;obtain⟨v0,vs0,d0,ds0,p0,q0,hargs,rfl,rfl,h0,r0⟩:=trodAll_cons hA;obtain⟨rfl,rfl,rfl⟩:=trodAll_nil r0;obtain rfl:args = #[v0]:=by cases args; simp_all
 obtain⟨rfl,rfl⟩:=trodVars_none hV;clear hA0 hval0;have hlt0:∀ x∈p0,x.block<W.heap.size:=fun x hx=>hW'.lt x (by simp[hx])
 obtain⟨φ0,hp0,im0,hz0⟩:=vse_laid hL hsh;obtain⟨φ1,hp1,av1,x1,im1,le1,k1,hv1,hE1⟩:=imp_one (ic_year (enc:=enc)) im0 (cells_of_slice Tryz.underlying53 (hval 0 53 v0 rfl rfl)) h0;have hz1:=hz0.ext k1;obtain⟨ys1,hr1,ho1⟩:=year_of hE1;refine(ACalls.law (masterPacks_c hr1 ho1 hz1.vs hz1.er) (fun r _ h=>h.1) im1 (vrels_cons hv1 vrels_nil)).mono fun e W' ⟨he,bel⟩=>?_
 subst he;exact⟨_,rfl,_,_,_,[],_,[],hW',trodAll_mk1 (shut_bool Tryz.underlying4 _),(trodAll_cons_mk (Below.trod laid (by kernel_rfl) (of_decide_eq_true (by kernel_rfl)) h0 bel hlt0) trodAll_mk0),rfl,bel.frame _,fun h=>by cases h⟩
set_option maxHeartbeats 4000000 in
theorem facts:joinedFacts Tryz.pinned.checked.prog 12 Tryz.f12 Rows.masterPacksSpec Rows.masterPacksRow=true:=by
 unfold joinedFacts;simp only[Bool.and_eq_true];refine⟨⟨⟨⟨⟨⟨⟨⟨⟨⟨⟨⟨⟨⟨⟨⟨⟨⟨⟨⟨⟨⟨⟨⟨⟨⟨⟨⟨⟨⟨⟨?_,?_⟩,?_⟩,?_⟩,?_⟩,?_⟩,?_⟩,?_⟩,?_⟩,?_⟩,?_⟩,?_⟩,?_⟩,?_⟩,?_⟩,?_⟩,?_⟩,?_⟩,?_⟩,?_⟩,?_⟩,?_⟩,?_⟩,?_⟩,?_⟩,?_⟩,?_⟩,?_⟩,?_⟩,?_⟩,?_⟩,?_⟩
 all_goals as_aux_lemma=>kernel_rfl
theorem wrapped:Tryz.f12.isWrapper Tryz.pinned.checked.prog Rows.masterPacksRow.wrapper Rows.masterPacksRow.mainSum:=by unfold Func.isWrapper; first|(rw[if_pos (by decide +kernel)]; kernel_rfl)|(rw[if_neg (by decide +kernel)]; exact⟨rfl,rfl⟩)
theorem inst:Tryz.f12.isInstance Tryz.pinned.checked.prog Rows.masterPacksRow.origin Rows.masterPacksRow.targs:=of_decide_eq_true (by kernel_rfl)
theorem named:Tryz.pinned.checked.prog.funcNamed Rows.masterPacksRow.func=some 12:=by kernel_rfl
theorem over:Rows.masterPacksRow.holds Tryz.pinned (OpenSpec.ofChange Rows.masterPacksSpec):=
  OpenClaim.holds_of_wide 12 Tryz.f12 rfl rfl rfl rfl rfl rfl rfl ⟨rfl, rfl, rfl, rfl, rfl⟩ rfl rfl rfl rfl rfl named Tryz.func12 facts inst wrapped
    (fun os started H enc _=>lifted os started H enc)
end Go.Proofs.YtgnogfjajnnaoaaGreatDoor.masterPacks
