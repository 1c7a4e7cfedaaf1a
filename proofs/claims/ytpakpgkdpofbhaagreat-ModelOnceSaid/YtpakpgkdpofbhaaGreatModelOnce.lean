/- Shows that a page was ever what was written to it, and nothing, and no other page has it, as the sentence ostrakonlaw21.ModelOnce says. No condition. -/
import Derived.Test.YtpakpgkdpofbhaaGreatC00
import Derived.Test.YtpakpgkdpofbhaaGreatC12
import Derived.Test.YtpakpgkdpofbhaaGreatC22
import Derived.WalkKit
set_option maxRecDepth 20000
set_option linter.all false
/- Shows that a page was ever what was written to it, and nothing, and no other page has it, as the sentence ostrakonlaw21.ModelOnce says. No condition. -/
namespace Go.Proofs.YtpakpgkdpofbhaaGreat.modelOnceClaim
open Go Go.RowKit
open Go.ChangeShapes Go.WideShapes Go.ChangeAt
theorem own:ownKnob Tryz.prog.godebug=none:=by kernel_rfl
set_option maxRecDepth 100000 in
theorem lifted (os : Os) (started : os.Started) (H : Type) (enc : TypeId × Value → H) :
    ReturnsInHanded {} Tryz.checked os 6 .any (Rows.modelOnceSpec.pre6 enc Tryz.prog Tryz.f6 Rows.modelOnceRow.domain false) (Rows.modelOnceSpec.post enc Tryz.prog Tryz.f6 false true false false):=by
  refine returnsInHanded_of_change (C:=Tryz.checked) own started (by kernel_rfl) Tryz.func6
    (ChangeSpec.witness6 (enc:=enc) (C:=Tryz.checked) false ⟨#[],#[.slice none 0 0, .slice none 0 0],[]⟩ 8 (by kernel_rfl) (by kernel_rfl) (by kernel_rfl) (by kernel_rfl)) ?_
  intro W base args ds gs before hval0 hW hcnd _;have hval:∀(j:Nat) t v,Tryz.f6.params[j]? =some t->args[j]? =some v->Value.okWide Tryz.prog W .any base t v:=hval0;have hW':=hW;obtain⟨p,q,hA0,hV,rfl,hfz,hnd⟩:=hW;have hA:DataW.TrodAll enc Tryz.prog W 0 (λ_=>true) true Tryz.f6.params.toList args.toList ds p:=hA0;rw[Tryz.params6]at hA hval;obtain⟨v0,vs0,d0,ds0,p0,q0,hargs,rfl,rfl,h0,r0⟩:=trodAll_cons hA;obtain⟨v1,vs1,d1,ds1,p1,q1,rfl,rfl,rfl,h1,r1⟩:=trodAll_cons r0;obtain⟨rfl,rfl,rfl⟩:=trodAll_nil r1;obtain rfl:args= #[v0,v1]:=by cases args;simp_all
  obtain⟨rfl,rfl⟩:=trodVars_none hV;have k0:=h0;have lt0:∀x∈p0,x.block<W.heap.size:=by obtain⟨m,hm⟩:=k0;exact DataW.trod_lt m _ _ _ hm
  obtain⟨ad0,len0,cap0,rfl⟩:=okWide_slice Tryz.underlying35 (hval 0 35 v0 rfl rfl);obtain⟨f0,hf0⟩:=h0;obtain⟨l0,hl0,hd0,hr0⟩:=b5q hf0;have k1:=h1;have lt1:∀x∈p1,x.block<W.heap.size:=by obtain⟨m,hm⟩:=k1;exact DataW.trod_lt m _ _ _ hm
  obtain⟨ad1,a1w,cap1,rfl⟩:=okWide_slice Tryz.underlying36 (hval 1 36 v1 rfl rfl);obtain⟨f1,hf1⟩:=h1;obtain⟨l1,hl1,hd1,hr1⟩:=c0t hf1;clear hA0 hval0;refine(Fn.whole (b1p (frz W) ad0 len0 cap0 l0 (a4I hr0) hl0 hd0 ad1 a1w cap1 l1 (a4I hr1) hl1 hd1)).mono λe W' ⟨he,bel⟩=>?_;subst he;exact⟨_,rfl,_,_,_,[],_,[],hW',trodAll_mk1 (shut_bool Tryz.underlying4 _),(trodAll_cons_mk (Below.trod X1 (by kernel_rfl) (A7 (by kernel_rfl)) k0 bel lt0) (trodAll_cons_mk (Below.trod X1 (by kernel_rfl) (A7 (by kernel_rfl)) k1 bel lt1) trodAll_mk0)),rfl,bel.frame _,λh=>by cases h⟩
theorem k0:(Rows.modelOnceRow.wf (OpenSpec.ofChange Rows.modelOnceSpec))=true:=by kernel_rfl
theorem k3:(Tryz.f6.params.all (Tryz.prog.readableRec ·))=true:=by kernel_rfl
theorem k4:(namedTie Tryz.prog Rows.modelOnceRow.named Rows.modelOnceSpec.vars)=true:=by kernel_rfl
theorem k5:(Rows.modelOnceRow.stops==[])=true:=by kernel_rfl
theorem k7:(Rows.modelOnceRow.knobs==[])=true:=by kernel_rfl
theorem k9:(Rows.modelOnceRow.inPlace==Tryz.prog.inPlace 6)=true:=by kernel_rfl
theorem k10:(Rows.modelOnceRow.unfollowed==Tryz.prog.unfollowed 6)=true:=by kernel_rfl
theorem k11:(Rows.modelOnceRow.recurses==Tryz.prog.recurses 6)=true:=by kernel_rfl
theorem k12:(Rows.modelOnceRow.named==Tryz.prog.varsNamed 6)=true:=by kernel_rfl
theorem k13:(Rows.modelOnceRow.maps==(Tryz.f6.params.toList++Rows.modelOnceSpec.plain.varTypes Tryz.prog).any (Tryz.prog.mapsRec ·))=true:=by kernel_rfl
theorem k14:(Rows.modelOnceRow.ifaces==(Tryz.f6.params.toList++Rows.modelOnceSpec.plain.varTypes Tryz.prog).any (Tryz.prog.ifacesRec ·))=true:=by kernel_rfl
theorem k15:(Rows.modelOnceRow.mapsOut==Tryz.prog.mapsAmong Tryz.f6.resultTypes.toList)=true:=by kernel_rfl
theorem k16:(Rows.modelOnceRow.loops==(Tryz.f6.params.toList++Rows.modelOnceSpec.plain.varTypes Tryz.prog).any (Tryz.prog.loopsFrom ·))=true:=by kernel_rfl
theorem k17:(Rows.modelOnceRow.wideKeys==(Tryz.f6.params.toList++Rows.modelOnceSpec.plain.varTypes Tryz.prog++Tryz.f6.resultTypes.toList).any (Tryz.prog.wideKeysFrom ·))=true:=by kernel_rfl
theorem k18:(Rows.modelOnceSpec.vars.all (Tryz.prog.varReadable ·))=true:=by kernel_rfl
theorem k19:(Tryz.f6.resultTypes.all (λt=>Tryz.prog.readableRec t&&decide (t<Tryz.prog.types.size)))=true:=by kernel_rfl
theorem k20:(Rows.modelOnceRow.ifacesOut==Tryz.f6.resultTypes.toList.any (Tryz.prog.ifacesRec ·))=true:=by kernel_rfl
theorem k21:(Rows.modelOnceRow.loopsOut==Tryz.f6.resultTypes.toList.any (Tryz.prog.loopsFrom ·))=true:=by kernel_rfl
theorem k22:(Rows.modelOnceRow.plainKeys==Tryz.prog.plainKeys)=true:=by kernel_rfl
theorem k23:(Rows.modelOnceRow.shortTexts.isNone)=true:=by kernel_rfl
theorem k26:(Rows.modelOnceRow.lifted==Tryz.prog.liftsFinal)=true:=by kernel_rfl
theorem k27:(Tryz.prog.make==some Rows.modelOnceRow.make)=true:=by kernel_rfl
theorem k28a:(Rows.modelOnceRow.domain.isEmpty)=true:=by kernel_rfl
theorem k28:(Rows.modelOnceRow.kinds==[])=true:=by kernel_rfl
theorem k29:(Rows.modelOnceRow.pinned==Rows.modelOnceRow.pinnedBy)=true:=by kernel_rfl
theorem k30:(Rows.modelOnceRow.veiled==(Tryz.f6.params.toList++Rows.modelOnceSpec.plain.varTypes Tryz.prog++Tryz.f6.resultTypes.toList).any (Tryz.prog.veiledRec ·))=true:=by kernel_rfl
theorem k31:(Rows.modelOnceRow.veiledFits Tryz.prog Tryz.f6.params.toList (Tryz.f6.params.toList++Rows.modelOnceSpec.plain.varTypes Tryz.prog++Tryz.f6.resultTypes.toList))=true:=by kernel_rfl
theorem closed:joinedFacts Tryz.prog 6 Tryz.f6 Rows.modelOnceSpec Rows.modelOnceRow=true:=a1C k0 X1 a4h k3 k4 k5 a4g k7 a4i k9 k10 k11 k12 k13 k14 k15 k16 k17 k18 k19 k20 k21 k22 k23 a4j a4k k26 k27 k28a k28 k29 k30 k31
theorem over:Rows.modelOnceRow.holds Tryz.pinned (OpenSpec.ofChange Rows.modelOnceSpec):=
  OpenClaim.holds_of_wide 6 Tryz.f6 rfl rfl rfl rfl rfl rfl rfl ⟨rfl,rfl,rfl,rfl,rfl⟩ rfl rfl rfl rfl rfl (by kernel_rfl) Tryz.func6 closed
    (A7 (by kernel_rfl)) (by unfold Func.isWrapper;first | (rw[d8 (by decide+kernel)];kernel_rfl) | (rw[d7 (by decide+kernel)];exact⟨rfl,rfl⟩))
    (λos started H enc _=>lifted os started H enc)
/-- THE STATEMENT -/
theorem proved:Rows.ModelOnceSaid:=over
#print axioms proved
end Go.Proofs.YtpakpgkdpofbhaaGreat.modelOnceClaim
