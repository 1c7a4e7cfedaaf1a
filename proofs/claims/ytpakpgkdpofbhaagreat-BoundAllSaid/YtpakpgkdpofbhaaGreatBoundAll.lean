/- Shows how much work there is at most, as the sentence ostrakonlaw21.BoundAll says. No condition. -/
import Derived.Test.YtpakpgkdpofbhaaGreatC00
import Derived.Test.YtpakpgkdpofbhaaGreatC12
import Derived.Test.YtpakpgkdpofbhaaGreatC18
import Derived.WalkKit
set_option maxRecDepth 20000
set_option linter.all false
/- Shows how much work there is at most, as the sentence ostrakonlaw21.BoundAll says. No condition. -/
namespace Go.Proofs.YtpakpgkdpofbhaaGreat.boundAllClaim
open Go Go.RowKit
open Go.ChangeShapes Go.WideShapes Go.ChangeAt
theorem own:ownKnob Tryz.prog.godebug=none:=by kernel_rfl
set_option maxRecDepth 100000 in
theorem lifted (os : Os) (started : os.Started) (H : Type) (enc : TypeId × Value → H) :
    ReturnsInHanded {} Tryz.checked os 3 .any (Rows.boundAllSpec.pre6 enc Tryz.prog Tryz.f3 Rows.boundAllRow.domain false) (Rows.boundAllSpec.post enc Tryz.prog Tryz.f3 false true false false):=by
  refine returnsInHanded_of_change (C:=Tryz.checked) own started (by kernel_rfl) Tryz.func3
    (ChangeSpec.witness6 (enc:=enc) (C:=Tryz.checked) false ⟨#[],#[.agg #[.int .i64 0, .int .i64 0, .int .i64 0]],[]⟩ 8 (by kernel_rfl) (by kernel_rfl) (by kernel_rfl) (by kernel_rfl)) ?_
  intro W base args ds gs before hval0 hW hcnd _;have hval:∀(j:Nat) t v,Tryz.f3.params[j]? =some t->args[j]? =some v->Value.okWide Tryz.prog W .any base t v:=hval0;have hW':=hW;obtain⟨p,q,hA0,hV,rfl,hfz,hnd⟩:=hW;have hA:DataW.TrodAll enc Tryz.prog W 0 (λ_=>true) true Tryz.f3.params.toList args.toList ds p:=hA0;rw[Tryz.params3]at hA hval;obtain⟨v0,vs0,d0,ds0,p0,q0,hargs,rfl,rfl,h0,r0⟩:=trodAll_cons hA;obtain⟨rfl,rfl,rfl⟩:=trodAll_nil r0;obtain rfl:args= #[v0]:=by cases args;simp_all
  obtain⟨rfl,rfl⟩:=trodVars_none hV;have k0:=h0;have lt0:∀x∈p0,x.block<W.heap.size:=by obtain⟨m,hm⟩:=k0;exact DataW.trod_lt m _ _ _ hm
  obtain⟨c00,c01,c02,y00,y01,y02,n0,rfl,_,_,g00,g01,g02⟩:=Joins.open_agg3 Tryz.underlying23 (by kernel_rfl) (by kernel_rfl) (hval 0 23 v0 rfl rfl) h0;obtain⟨a00,e00⟩:=J0 Tryz.underlying3 g00;obtain⟨a01,e01⟩:=J0 Tryz.underlying3 g01;obtain⟨a02,e02⟩:=J0 Tryz.underlying3 g02;simp only[O1,a5B]at e00 e01 e02;subst e00 e01 e02;clear hA0 hval0;refine(Fn.whole (b2Q a00 a01 a02 (frz W))).mono λe W' ⟨he,bel⟩=>?_;subst he;exact⟨_,rfl,_,_,_,[],_,[],hW',trodAll_mk1 (shut_bool Tryz.underlying4 _),(trodAll_cons_mk (Below.trod X1 (by kernel_rfl) (A7 (by kernel_rfl)) k0 bel lt0) trodAll_mk0),rfl,bel.frame _,λh=>by cases h⟩
theorem k0:(Rows.boundAllRow.wf (OpenSpec.ofChange Rows.boundAllSpec))=true:=by kernel_rfl
theorem k3:(Tryz.f3.params.all (Tryz.prog.readableRec ·))=true:=by kernel_rfl
theorem k4:(namedTie Tryz.prog Rows.boundAllRow.named Rows.boundAllSpec.vars)=true:=by kernel_rfl
theorem k5:(Rows.boundAllRow.stops==[])=true:=by kernel_rfl
theorem k7:(Rows.boundAllRow.knobs==[])=true:=by kernel_rfl
theorem k9:(Rows.boundAllRow.inPlace==Tryz.prog.inPlace 3)=true:=by kernel_rfl
theorem k10:(Rows.boundAllRow.unfollowed==Tryz.prog.unfollowed 3)=true:=by kernel_rfl
theorem k11:(Rows.boundAllRow.recurses==Tryz.prog.recurses 3)=true:=by kernel_rfl
theorem k12:(Rows.boundAllRow.named==Tryz.prog.varsNamed 3)=true:=by kernel_rfl
theorem k13:(Rows.boundAllRow.maps==(Tryz.f3.params.toList++Rows.boundAllSpec.plain.varTypes Tryz.prog).any (Tryz.prog.mapsRec ·))=true:=by kernel_rfl
theorem k14:(Rows.boundAllRow.ifaces==(Tryz.f3.params.toList++Rows.boundAllSpec.plain.varTypes Tryz.prog).any (Tryz.prog.ifacesRec ·))=true:=by kernel_rfl
theorem k15:(Rows.boundAllRow.mapsOut==Tryz.prog.mapsAmong Tryz.f3.resultTypes.toList)=true:=by kernel_rfl
theorem k16:(Rows.boundAllRow.loops==(Tryz.f3.params.toList++Rows.boundAllSpec.plain.varTypes Tryz.prog).any (Tryz.prog.loopsFrom ·))=true:=by kernel_rfl
theorem k17:(Rows.boundAllRow.wideKeys==(Tryz.f3.params.toList++Rows.boundAllSpec.plain.varTypes Tryz.prog++Tryz.f3.resultTypes.toList).any (Tryz.prog.wideKeysFrom ·))=true:=by kernel_rfl
theorem k18:(Rows.boundAllSpec.vars.all (Tryz.prog.varReadable ·))=true:=by kernel_rfl
theorem k19:(Tryz.f3.resultTypes.all (λt=>Tryz.prog.readableRec t&&decide (t<Tryz.prog.types.size)))=true:=by kernel_rfl
theorem k20:(Rows.boundAllRow.ifacesOut==Tryz.f3.resultTypes.toList.any (Tryz.prog.ifacesRec ·))=true:=by kernel_rfl
theorem k21:(Rows.boundAllRow.loopsOut==Tryz.f3.resultTypes.toList.any (Tryz.prog.loopsFrom ·))=true:=by kernel_rfl
theorem k22:(Rows.boundAllRow.plainKeys==Tryz.prog.plainKeys)=true:=by kernel_rfl
theorem k23:(Rows.boundAllRow.shortTexts.isNone)=true:=by kernel_rfl
theorem k26:(Rows.boundAllRow.lifted==Tryz.prog.liftsFinal)=true:=by kernel_rfl
theorem k27:(Tryz.prog.make==some Rows.boundAllRow.make)=true:=by kernel_rfl
theorem k28a:(Rows.boundAllRow.domain.isEmpty)=true:=by kernel_rfl
theorem k28:(Rows.boundAllRow.kinds==[])=true:=by kernel_rfl
theorem k29:(Rows.boundAllRow.pinned==Rows.boundAllRow.pinnedBy)=true:=by kernel_rfl
theorem k30:(Rows.boundAllRow.veiled==(Tryz.f3.params.toList++Rows.boundAllSpec.plain.varTypes Tryz.prog++Tryz.f3.resultTypes.toList).any (Tryz.prog.veiledRec ·))=true:=by kernel_rfl
theorem k31:(Rows.boundAllRow.veiledFits Tryz.prog Tryz.f3.params.toList (Tryz.f3.params.toList++Rows.boundAllSpec.plain.varTypes Tryz.prog++Tryz.f3.resultTypes.toList))=true:=by kernel_rfl
theorem closed:joinedFacts Tryz.prog 3 Tryz.f3 Rows.boundAllSpec Rows.boundAllRow=true:=a1C k0 X1 a4h k3 k4 k5 a4g k7 a4i k9 k10 k11 k12 k13 k14 k15 k16 k17 k18 k19 k20 k21 k22 k23 a4j a4k k26 k27 k28a k28 k29 k30 k31
theorem over:Rows.boundAllRow.holds Tryz.pinned (OpenSpec.ofChange Rows.boundAllSpec):=
  OpenClaim.holds_of_wide 3 Tryz.f3 rfl rfl rfl rfl rfl rfl rfl ⟨rfl,rfl,rfl,rfl,rfl⟩ rfl rfl rfl rfl rfl (by kernel_rfl) Tryz.func3 closed
    (A7 (by kernel_rfl)) (by unfold Func.isWrapper;first | (rw[d8 (by decide+kernel)];kernel_rfl) | (rw[d7 (by decide+kernel)];exact⟨rfl,rfl⟩))
    (λos started H enc _=>lifted os started H enc)
/-- THE STATEMENT -/
theorem proved:Rows.BoundAllSaid:=over
#print axioms proved
end Go.Proofs.YtpakpgkdpofbhaaGreat.boundAllClaim
