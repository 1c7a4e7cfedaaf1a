/- Shows that what was flushed is there behind a power cycle, and behind another one, as the sentence ostrakontop.TopMount says. No condition. -/
import Derived.Test.YtpakpgkdpofbhaaGreatA00
import Derived.Test.YtpakpgkdpofbhaaGreatA12
import Derived.Test.YtpakpgkdpofbhaaGreatA18
import Derived.Test.YtpakpgkdpofbhaaGreatA24
import Derived.WalkKit
set_option maxRecDepth 20000
set_option linter.all false
/- Shows that what was flushed is there behind a power cycle, and behind another one, as the sentence ostrakontop.TopMount says. No condition. -/
namespace Go.Proofs.YtpakpgkdpofbhaaGreat.topMountClaim
open Go Go.RowKit
open Go.ChangeShapes Go.WideShapes Go.ChangeAt
theorem own:ownKnob Tryz.prog.godebug=none:=by kernel_rfl
set_option maxRecDepth 100000 in
theorem lifted (os : Os) (started : os.Started) (H : Type) (enc : TypeId × Value → H) :
    ReturnsInHanded {} Tryz.checked os 16 .any (Rows.topMountSpec.pre6 enc Tryz.prog Tryz.f16 Rows.topMountRow.domain false) (Rows.topMountSpec.post enc Tryz.prog Tryz.f16 false true false false):=by
  refine returnsInHanded_of_change (C:=Tryz.checked) own started (by kernel_rfl) Tryz.func16
    (ChangeSpec.witness6 (enc:=enc) (C:=Tryz.checked) false ⟨#[],#[.agg #[.int .i64 0, .int .i64 0, .int .i64 0], .int .i64 0],[]⟩ 8 (by kernel_rfl) (by kernel_rfl) (by kernel_rfl) (by kernel_rfl)) ?_
  intro W base args ds gs before hval0 hW hcnd _;have hval:∀(j:Nat) t v,Tryz.f16.params[j]? =some t->args[j]? =some v->Value.okWide Tryz.prog W .any base t v:=hval0;have hW':=hW;obtain⟨p,q,hA0,hV,rfl,hfz,hnd⟩:=hW;have hA:DataW.TrodAll enc Tryz.prog W 0 (λ_=>true) true Tryz.f16.params.toList args.toList ds p:=hA0;rw[Tryz.params16]at hA hval;obtain⟨v0,vs0,d0,ds0,p0,q0,hargs,rfl,rfl,h0,r0⟩:=trodAll_cons hA;obtain⟨v1,vs1,d1,ds1,p1,q1,rfl,rfl,rfl,h1,r1⟩:=trodAll_cons r0;obtain⟨rfl,rfl,rfl⟩:=trodAll_nil r1;obtain rfl:args= #[v0,v1]:=by cases args;simp_all
  obtain⟨rfl,rfl⟩:=trodVars_none hV;have k0:=h0;have lt0:∀x∈p0,x.block<W.heap.size:=by obtain⟨m,hm⟩:=k0;exact DataW.trod_lt m _ _ _ hm
  obtain⟨c00,c01,c02,y00,y01,y02,n0,rfl,_,_,g00,g01,g02⟩:=Joins.open_agg3 Tryz.underlying23 (by kernel_rfl) (by kernel_rfl) (hval 0 23 v0 rfl rfl) h0;obtain⟨a00,e00⟩:=M4 Tryz.underlying3 g00;obtain⟨a01,e01⟩:=M4 Tryz.underlying3 g01;obtain⟨a02,e02⟩:=M4 Tryz.underlying3 g02;simp only[K5,a2q]at e00 e01 e02;subst e00 e01 e02;obtain⟨a1,rfl,rfl,rfl,w1⟩:=open_int Tryz.underlying3 (hval 1 3 v1 rfl rfl) h1;clear hA0 hval0;refine(Fn.whole (b3r a00 a01 a02 a1 (frz W))).mono λe W' ⟨he,bel⟩=>?_;subst he;exact⟨_,rfl,_,_,_,[],_,[],hW',trodAll_mk1 (shut_bool Tryz.underlying4 _),(trodAll_cons_mk (Below.trod a0I (by kernel_rfl) (D9 (by kernel_rfl)) k0 bel lt0) (trodAll_cons_mk (shut_int Tryz.underlying3 w1) trodAll_mk0)),rfl,bel.frame _,λh=>by cases h⟩
theorem k0:(Rows.topMountRow.wf (OpenSpec.ofChange Rows.topMountSpec))=true:=by kernel_rfl
theorem k3:(Tryz.f16.params.all (Tryz.prog.readableRec ·))=true:=by kernel_rfl
theorem k4:(namedTie Tryz.prog Rows.topMountRow.named Rows.topMountSpec.vars)=true:=by kernel_rfl
theorem k5:(Rows.topMountRow.stops==[])=true:=by kernel_rfl
theorem k7:(Rows.topMountRow.knobs==[])=true:=by kernel_rfl
theorem k9:(Rows.topMountRow.inPlace==Tryz.prog.inPlace 16)=true:=by kernel_rfl
theorem k10:(Rows.topMountRow.unfollowed==Tryz.prog.unfollowed 16)=true:=by kernel_rfl
theorem k11:(Rows.topMountRow.recurses==Tryz.prog.recurses 16)=true:=by kernel_rfl
theorem k12:(Rows.topMountRow.named==Tryz.prog.varsNamed 16)=true:=by kernel_rfl
theorem k13:(Rows.topMountRow.maps==(Tryz.f16.params.toList++Rows.topMountSpec.plain.varTypes Tryz.prog).any (Tryz.prog.mapsRec ·))=true:=by kernel_rfl
theorem k14:(Rows.topMountRow.ifaces==(Tryz.f16.params.toList++Rows.topMountSpec.plain.varTypes Tryz.prog).any (Tryz.prog.ifacesRec ·))=true:=by kernel_rfl
theorem k15:(Rows.topMountRow.mapsOut==Tryz.prog.mapsAmong Tryz.f16.resultTypes.toList)=true:=by kernel_rfl
theorem k16:(Rows.topMountRow.loops==(Tryz.f16.params.toList++Rows.topMountSpec.plain.varTypes Tryz.prog).any (Tryz.prog.loopsFrom ·))=true:=by kernel_rfl
theorem k17:(Rows.topMountRow.wideKeys==(Tryz.f16.params.toList++Rows.topMountSpec.plain.varTypes Tryz.prog++Tryz.f16.resultTypes.toList).any (Tryz.prog.wideKeysFrom ·))=true:=by kernel_rfl
theorem k18:(Rows.topMountSpec.vars.all (Tryz.prog.varReadable ·))=true:=by kernel_rfl
theorem k19:(Tryz.f16.resultTypes.all (λt=>Tryz.prog.readableRec t&&decide (t<Tryz.prog.types.size)))=true:=by kernel_rfl
theorem k20:(Rows.topMountRow.ifacesOut==Tryz.f16.resultTypes.toList.any (Tryz.prog.ifacesRec ·))=true:=by kernel_rfl
theorem k21:(Rows.topMountRow.loopsOut==Tryz.f16.resultTypes.toList.any (Tryz.prog.loopsFrom ·))=true:=by kernel_rfl
theorem k22:(Rows.topMountRow.plainKeys==Tryz.prog.plainKeys)=true:=by kernel_rfl
theorem k23:(Rows.topMountRow.shortTexts.isNone)=true:=by kernel_rfl
theorem k26:(Rows.topMountRow.lifted==Tryz.prog.liftsFinal)=true:=by kernel_rfl
theorem k27:(Tryz.prog.make==some Rows.topMountRow.make)=true:=by kernel_rfl
theorem k28a:(Rows.topMountRow.domain.isEmpty)=true:=by kernel_rfl
theorem k28:(Rows.topMountRow.kinds==[])=true:=by kernel_rfl
theorem k29:(Rows.topMountRow.pinned==Rows.topMountRow.pinnedBy)=true:=by kernel_rfl
theorem k30:(Rows.topMountRow.veiled==(Tryz.f16.params.toList++Rows.topMountSpec.plain.varTypes Tryz.prog++Tryz.f16.resultTypes.toList).any (Tryz.prog.veiledRec ·))=true:=by kernel_rfl
theorem k31:(Rows.topMountRow.veiledFits Tryz.prog Tryz.f16.params.toList (Tryz.f16.params.toList++Rows.topMountSpec.plain.varTypes Tryz.prog++Tryz.f16.resultTypes.toList))=true:=by kernel_rfl
theorem closed:joinedFacts Tryz.prog 16 Tryz.f16 Rows.topMountSpec Rows.topMountRow=true:=a1T k0 a0I a4B k3 k4 k5 a4A k7 a4C k9 k10 k11 k12 k13 k14 k15 k16 k17 k18 k19 k20 k21 k22 k23 a4D a4E k26 k27 k28a k28 k29 k30 k31
theorem over:Rows.topMountRow.holds Tryz.pinned (OpenSpec.ofChange Rows.topMountSpec):=
  OpenClaim.holds_of_wide 16 Tryz.f16 rfl rfl rfl rfl rfl rfl rfl ⟨rfl,rfl,rfl,rfl,rfl⟩ rfl rfl rfl rfl rfl (by kernel_rfl) Tryz.func16 closed
    (D9 (by kernel_rfl)) (by unfold Func.isWrapper;first | (rw[g7 (by decide+kernel)];kernel_rfl) | (rw[f9 (by decide+kernel)];exact⟨rfl,rfl⟩))
    (λos started H enc _=>lifted os started H enc)
/-- THE STATEMENT -/
theorem proved:Rows.TopMountSaid:=over
#print axioms proved
end Go.Proofs.YtpakpgkdpofbhaaGreat.topMountClaim
