/- Shows that superblocks in which nothing stands any more are erased, just these, each once, and that they may be opened then, as the sentence ostrakonlaw18.SweepClear says. No condition. -/
import Derived.Test.YtdocmcapegcoeaaGreatA24
import Derived.Test.YtdocmcapegcoeaaGreatA27
import Derived.Test.YtdocmcapegcoeaaGreatA36
import Derived.WalkKit
set_option maxRecDepth 20000
set_option linter.all false
/- Shows that superblocks in which nothing stands any more are erased, just these, each once, and that they may be opened then, as the sentence ostrakonlaw18.SweepClear says. No condition. -/
namespace Go.Proofs.YtdocmcapegcoeaaGreat.sweepClearClaim
open Go Go.RowKit
open Go.ChangeShapes Go.WideShapes Go.ChangeAt
theorem own:ownKnob Tryz.prog.godebug=none:=by kernel_rfl
set_option maxRecDepth 100000 in
theorem lifted (os : Os) (started : os.Started) (H : Type) (enc : TypeId × Value → H) :
    ReturnsInHanded {} Tryz.checked os 10 .any (Rows.sweepClearSpec.pre6 enc Tryz.prog Tryz.f10 Rows.sweepClearRow.domain false) (Rows.sweepClearSpec.post enc Tryz.prog Tryz.f10 false true false false):=by
  refine returnsInHanded_of_change (C:=Tryz.checked) own started (by kernel_rfl) Tryz.func10
    (ChangeSpec.witness6 (enc:=enc) (C:=Tryz.checked) false ⟨#[],#[.agg #[.int .i64 0, .int .i64 0, .int .i64 0], .int .i64 0],[]⟩ 8 (by kernel_rfl) (by kernel_rfl) (by kernel_rfl) (by kernel_rfl)) ?_
  intro W base args ds gs before hval0 hW hcnd _;have hval:∀(j:Nat) t v,Tryz.f10.params[j]? =some t->args[j]? =some v->Value.okWide Tryz.prog W .any base t v:=hval0;have hW':=hW;obtain⟨p,q,hA0,hV,rfl,hfz,hnd⟩:=hW;have hA:DataW.TrodAll enc Tryz.prog W 0 (λ_=>true) true Tryz.f10.params.toList args.toList ds p:=hA0;rw[Tryz.params10]at hA hval;obtain⟨v0,vs0,d0,ds0,p0,q0,hargs,rfl,rfl,h0,r0⟩:=trodAll_cons hA;obtain⟨v1,vs1,d1,ds1,p1,q1,rfl,rfl,rfl,h1,r1⟩:=trodAll_cons r0;obtain⟨rfl,rfl,rfl⟩:=trodAll_nil r1;obtain rfl:args= #[v0,v1]:=by cases args;simp_all
  obtain⟨rfl,rfl⟩:=trodVars_none hV;have k0:=h0;have lt0:∀x∈p0,x.block<W.heap.size:=by obtain⟨m,hm⟩:=k0;exact DataW.trod_lt m _ _ _ hm
  obtain⟨c00,c01,c02,y00,y01,y02,n0,rfl,_,_,g00,g01,g02⟩:=Joins.open_agg3 Tryz.underlying23 (by kernel_rfl) (by kernel_rfl) (hval 0 23 v0 rfl rfl) h0;obtain⟨a00,e00⟩:=one_i64 Tryz.underlying3 g00;obtain⟨a01,e01⟩:=one_i64 Tryz.underlying3 g01;obtain⟨a02,e02⟩:=one_i64 Tryz.underlying3 g02;simp only[List.cons.injEq,and_true]at e00 e01 e02;subst e00 e01 e02;obtain⟨a1,rfl,rfl,rfl,w1⟩:=open_int Tryz.underlying3 (hval 1 3 v1 rfl rfl) h1;clear hA0 hval0;refine(Fn.whole (s_SweepClear a00 a01 a02 a1 (frz W))).mono λe W' ⟨he,bel⟩=>?_;subst he;exact⟨_,rfl,_,_,_,[],_,[],hW',trodAll_mk1 (shut_bool Tryz.underlying4 _),(trodAll_cons_mk (Below.trod j_laid (by kernel_rfl) (of_decide_eq_true (by kernel_rfl)) k0 bel lt0) (trodAll_cons_mk (shut_int Tryz.underlying3 w1) trodAll_mk0)),rfl,bel.frame _,λh=>by cases h⟩
theorem k0:(Rows.sweepClearRow.wf (OpenSpec.ofChange Rows.sweepClearSpec))=true:=by kernel_rfl
theorem k3:(Tryz.f10.params.all (Tryz.prog.readableRec ·))=true:=by kernel_rfl
theorem k4:(namedTie Tryz.prog Rows.sweepClearRow.named Rows.sweepClearSpec.vars)=true:=by kernel_rfl
theorem k5:(Rows.sweepClearRow.stops==[])=true:=by kernel_rfl
theorem k7:(Rows.sweepClearRow.knobs==[])=true:=by kernel_rfl
theorem k9:(Rows.sweepClearRow.inPlace==Tryz.prog.inPlace 10)=true:=by kernel_rfl
theorem k10:(Rows.sweepClearRow.unfollowed==Tryz.prog.unfollowed 10)=true:=by kernel_rfl
theorem k11:(Rows.sweepClearRow.recurses==Tryz.prog.recurses 10)=true:=by kernel_rfl
theorem k12:(Rows.sweepClearRow.named==Tryz.prog.varsNamed 10)=true:=by kernel_rfl
theorem k13:(Rows.sweepClearRow.maps==(Tryz.f10.params.toList++Rows.sweepClearSpec.plain.varTypes Tryz.prog).any (Tryz.prog.mapsRec ·))=true:=by kernel_rfl
theorem k14:(Rows.sweepClearRow.ifaces==(Tryz.f10.params.toList++Rows.sweepClearSpec.plain.varTypes Tryz.prog).any (Tryz.prog.ifacesRec ·))=true:=by kernel_rfl
theorem k15:(Rows.sweepClearRow.mapsOut==Tryz.prog.mapsAmong Tryz.f10.resultTypes.toList)=true:=by kernel_rfl
theorem k16:(Rows.sweepClearRow.loops==(Tryz.f10.params.toList++Rows.sweepClearSpec.plain.varTypes Tryz.prog).any (Tryz.prog.loopsFrom ·))=true:=by kernel_rfl
theorem k17:(Rows.sweepClearRow.wideKeys==(Tryz.f10.params.toList++Rows.sweepClearSpec.plain.varTypes Tryz.prog++Tryz.f10.resultTypes.toList).any (Tryz.prog.wideKeysFrom ·))=true:=by kernel_rfl
theorem k18:(Rows.sweepClearSpec.vars.all (Tryz.prog.varReadable ·))=true:=by kernel_rfl
theorem k19:(Tryz.f10.resultTypes.all (λt=>Tryz.prog.readableRec t&&decide (t<Tryz.prog.types.size)))=true:=by kernel_rfl
theorem k20:(Rows.sweepClearRow.ifacesOut==Tryz.f10.resultTypes.toList.any (Tryz.prog.ifacesRec ·))=true:=by kernel_rfl
theorem k21:(Rows.sweepClearRow.loopsOut==Tryz.f10.resultTypes.toList.any (Tryz.prog.loopsFrom ·))=true:=by kernel_rfl
theorem k22:(Rows.sweepClearRow.plainKeys==Tryz.prog.plainKeys)=true:=by kernel_rfl
theorem k23:(Rows.sweepClearRow.shortTexts.isNone)=true:=by kernel_rfl
theorem k26:(Rows.sweepClearRow.lifted==Tryz.prog.liftsFinal)=true:=by kernel_rfl
theorem k27:(Tryz.prog.make==some Rows.sweepClearRow.make)=true:=by kernel_rfl
theorem k28a:(Rows.sweepClearRow.domain.isEmpty)=true:=by kernel_rfl
theorem k28:(Rows.sweepClearRow.kinds==[])=true:=by kernel_rfl
theorem k29:(Rows.sweepClearRow.pinned==Rows.sweepClearRow.pinnedBy)=true:=by kernel_rfl
theorem k30:(Rows.sweepClearRow.veiled==(Tryz.f10.params.toList++Rows.sweepClearSpec.plain.varTypes Tryz.prog++Tryz.f10.resultTypes.toList).any (Tryz.prog.veiledRec ·))=true:=by kernel_rfl
theorem k31:(Rows.sweepClearRow.veiledFits Tryz.prog Tryz.f10.params.toList (Tryz.f10.params.toList++Rows.sweepClearSpec.plain.varTypes Tryz.prog++Tryz.f10.resultTypes.toList))=true:=by kernel_rfl
theorem closed:joinedFacts Tryz.prog 10 Tryz.f10 Rows.sweepClearSpec Rows.sweepClearRow=true:=joined_of k0 j_laid j_rowed k3 k4 k5 j_stops k7 j_knobs k9 k10 k11 k12 k13 k14 k15 k16 k17 k18 k19 k20 k21 k22 k23 j_heard j_enter k26 k27 k28a k28 k29 k30 k31
theorem over:Rows.sweepClearRow.holds Tryz.pinned (OpenSpec.ofChange Rows.sweepClearSpec):=
  OpenClaim.holds_of_wide 10 Tryz.f10 rfl rfl rfl rfl rfl rfl rfl ⟨rfl,rfl,rfl,rfl,rfl⟩ rfl rfl rfl rfl rfl (by kernel_rfl) Tryz.func10 closed
    (of_decide_eq_true (by kernel_rfl)) (by unfold Func.isWrapper;first | (rw[if_pos (by decide+kernel)];kernel_rfl) | (rw[if_neg (by decide+kernel)];exact⟨rfl,rfl⟩))
    (λos started H enc _=>lifted os started H enc)
/-- THE STATEMENT -/
theorem proved:Rows.SweepClearSaid:=over
#print axioms proved
end Go.Proofs.YtdocmcapegcoeaaGreat.sweepClearClaim
