/- Shows that what was seen behind a cut is what is there from then on, as the sentence ostrakonlaw21.ModelSeen says. No condition. -/
import Derived.Test.YtpakpgkdpofbhaaGreatC00
import Derived.Test.YtpakpgkdpofbhaaGreatC12
import Derived.Test.YtpakpgkdpofbhaaGreatC17
import Derived.Test.YtpakpgkdpofbhaaGreatC23
import Derived.WalkKit
set_option maxRecDepth 20000
set_option linter.all false
/- Shows that what was seen behind a cut is what is there from then on, as the sentence ostrakonlaw21.ModelSeen says. No condition. -/
namespace Go.Proofs.YtpakpgkdpofbhaaGreat.modelSeenClaim
open Go Go.RowKit
open Go.ChangeShapes Go.WideShapes Go.ChangeAt
theorem own:ownKnob Tryz.prog.godebug=none:=by kernel_rfl
set_option maxRecDepth 100000 in
theorem lifted (os : Os) (started : os.Started) (H : Type) (enc : TypeId × Value → H) :
    ReturnsInHanded {} Tryz.checked os 5 .any (Rows.modelSeenSpec.pre6 enc Tryz.prog Tryz.f5 Rows.modelSeenRow.domain false) (Rows.modelSeenSpec.post enc Tryz.prog Tryz.f5 false true false false):=by
  refine returnsInHanded_of_change (C:=Tryz.checked) own started (by kernel_rfl) Tryz.func5
    (ChangeSpec.witness6 (enc:=enc) (C:=Tryz.checked) false ⟨#[],#[.agg #[.int .u8 0, .int .u8 0, .int .u8 0, .int .u8 0, .int .u8 0, .int .u8 0, .int .u8 0, .int .u8 0, .int .u8 0, .int .u8 0, .int .u8 0, .int .u8 0, .int .u8 0, .int .u8 0, .int .u8 0, .int .u8 0], .agg #[.int .u8 0, .int .u8 0, .int .u8 0, .int .u8 0, .int .u8 0, .int .u8 0, .int .u8 0, .int .u8 0, .int .u8 0, .int .u8 0, .int .u8 0, .int .u8 0, .int .u8 0, .int .u8 0, .int .u8 0, .int .u8 0], .agg #[.int .u8 0, .int .u8 0, .int .u8 0, .int .u8 0, .int .u8 0, .int .u8 0, .int .u8 0, .int .u8 0, .int .u8 0, .int .u8 0, .int .u8 0, .int .u8 0, .int .u8 0, .int .u8 0, .int .u8 0, .int .u8 0], .bool false],[]⟩ 8 (by kernel_rfl) (by kernel_rfl) (by kernel_rfl) (by kernel_rfl)) ?_
  intro W base args ds gs before hval0 hW hcnd _;have hval:∀(j:Nat) t v,Tryz.f5.params[j]? =some t->args[j]? =some v->Value.okWide Tryz.prog W .any base t v:=hval0;have hW':=hW;obtain⟨p,q,hA0,hV,rfl,hfz,hnd⟩:=hW;have hA:DataW.TrodAll enc Tryz.prog W 0 (λ_=>true) true Tryz.f5.params.toList args.toList ds p:=hA0;rw[Tryz.params5]at hA hval;obtain⟨v0,vs0,d0,ds0,p0,q0,hargs,rfl,rfl,h0,r0⟩:=trodAll_cons hA;obtain⟨v1,vs1,d1,ds1,p1,q1,rfl,rfl,rfl,h1,r1⟩:=trodAll_cons r0;obtain⟨v2,vs2,d2,ds2,p2,q2,rfl,rfl,rfl,h2,r2⟩:=trodAll_cons r1;obtain⟨v3,vs3,d3,ds3,p3,q3,rfl,rfl,rfl,h3,r3⟩:=trodAll_cons r2;obtain⟨rfl,rfl,rfl⟩:=trodAll_nil r3;obtain rfl:args= #[v0,v1,v2,v3]:=by cases args;simp_all
  obtain⟨rfl,rfl⟩:=trodVars_none hV;have k0:=h0;have lt0:∀x∈p0,x.block<W.heap.size:=by obtain⟨m,hm⟩:=k0;exact DataW.trod_lt m _ _ _ hm
  obtain⟨c0,rfl⟩:=a3K Tryz.underlying30 (hval 0 30 v0 rfl rfl);obtain⟨f0,hf0⟩:=h0;obtain⟨s0,hs0,es0⟩:=a4r hf0;obtain rfl:c0=(B1 s0).toArray:=by rw[<- es0];rfl
  have k1:=h1;have lt1:∀x∈p1,x.block<W.heap.size:=by obtain⟨m,hm⟩:=k1;exact DataW.trod_lt m _ _ _ hm
  obtain⟨c1,rfl⟩:=a3K Tryz.underlying30 (hval 1 30 v1 rfl rfl);obtain⟨f1,hf1⟩:=h1;obtain⟨s1,hs1,es1⟩:=a4r hf1;obtain rfl:c1=(B1 s1).toArray:=by rw[<- es1];rfl
  have k2:=h2;have lt2:∀x∈p2,x.block<W.heap.size:=by obtain⟨m,hm⟩:=k2;exact DataW.trod_lt m _ _ _ hm
  obtain⟨c2,rfl⟩:=a3K Tryz.underlying30 (hval 2 30 v2 rfl rfl);obtain⟨f2,hf2⟩:=h2;obtain⟨s2,hs2,es2⟩:=a4r hf2;obtain rfl:c2=(B1 s2).toArray:=by rw[<- es2];rfl
  obtain⟨a3,rfl,rfl,rfl⟩:=Go.RowKit.open_bool Tryz.underlying4 (hval 3 4 v3 rfl rfl) h3;clear hA0 hval0;refine(Fn.whole (b1o s0 hs0 s1 hs1 s2 hs2 a3 (frz W))).mono λe W' ⟨he,bel⟩=>?_;subst he;exact⟨_,rfl,_,_,_,[],_,[],hW',trodAll_mk1 (shut_bool Tryz.underlying4 _),(trodAll_cons_mk (Below.trod X1 (by kernel_rfl) (A7 (by kernel_rfl)) k0 bel lt0) (trodAll_cons_mk (Below.trod X1 (by kernel_rfl) (A7 (by kernel_rfl)) k1 bel lt1) (trodAll_cons_mk (Below.trod X1 (by kernel_rfl) (A7 (by kernel_rfl)) k2 bel lt2) (trodAll_cons_mk (shut_bool Tryz.underlying4 _) trodAll_mk0)))),rfl,bel.frame _,λh=>by cases h⟩
theorem k0:(Rows.modelSeenRow.wf (OpenSpec.ofChange Rows.modelSeenSpec))=true:=by kernel_rfl
theorem k3:(Tryz.f5.params.all (Tryz.prog.readableRec ·))=true:=by kernel_rfl
theorem k4:(namedTie Tryz.prog Rows.modelSeenRow.named Rows.modelSeenSpec.vars)=true:=by kernel_rfl
theorem k5:(Rows.modelSeenRow.stops==[])=true:=by kernel_rfl
theorem k7:(Rows.modelSeenRow.knobs==[])=true:=by kernel_rfl
theorem k9:(Rows.modelSeenRow.inPlace==Tryz.prog.inPlace 5)=true:=by kernel_rfl
theorem k10:(Rows.modelSeenRow.unfollowed==Tryz.prog.unfollowed 5)=true:=by kernel_rfl
theorem k11:(Rows.modelSeenRow.recurses==Tryz.prog.recurses 5)=true:=by kernel_rfl
theorem k12:(Rows.modelSeenRow.named==Tryz.prog.varsNamed 5)=true:=by kernel_rfl
theorem k13:(Rows.modelSeenRow.maps==(Tryz.f5.params.toList++Rows.modelSeenSpec.plain.varTypes Tryz.prog).any (Tryz.prog.mapsRec ·))=true:=by kernel_rfl
theorem k14:(Rows.modelSeenRow.ifaces==(Tryz.f5.params.toList++Rows.modelSeenSpec.plain.varTypes Tryz.prog).any (Tryz.prog.ifacesRec ·))=true:=by kernel_rfl
theorem k15:(Rows.modelSeenRow.mapsOut==Tryz.prog.mapsAmong Tryz.f5.resultTypes.toList)=true:=by kernel_rfl
theorem k16:(Rows.modelSeenRow.loops==(Tryz.f5.params.toList++Rows.modelSeenSpec.plain.varTypes Tryz.prog).any (Tryz.prog.loopsFrom ·))=true:=by kernel_rfl
theorem k17:(Rows.modelSeenRow.wideKeys==(Tryz.f5.params.toList++Rows.modelSeenSpec.plain.varTypes Tryz.prog++Tryz.f5.resultTypes.toList).any (Tryz.prog.wideKeysFrom ·))=true:=by kernel_rfl
theorem k18:(Rows.modelSeenSpec.vars.all (Tryz.prog.varReadable ·))=true:=by kernel_rfl
theorem k19:(Tryz.f5.resultTypes.all (λt=>Tryz.prog.readableRec t&&decide (t<Tryz.prog.types.size)))=true:=by kernel_rfl
theorem k20:(Rows.modelSeenRow.ifacesOut==Tryz.f5.resultTypes.toList.any (Tryz.prog.ifacesRec ·))=true:=by kernel_rfl
theorem k21:(Rows.modelSeenRow.loopsOut==Tryz.f5.resultTypes.toList.any (Tryz.prog.loopsFrom ·))=true:=by kernel_rfl
theorem k22:(Rows.modelSeenRow.plainKeys==Tryz.prog.plainKeys)=true:=by kernel_rfl
theorem k23:(Rows.modelSeenRow.shortTexts.isNone)=true:=by kernel_rfl
theorem k26:(Rows.modelSeenRow.lifted==Tryz.prog.liftsFinal)=true:=by kernel_rfl
theorem k27:(Tryz.prog.make==some Rows.modelSeenRow.make)=true:=by kernel_rfl
theorem k28a:(Rows.modelSeenRow.domain.isEmpty)=true:=by kernel_rfl
theorem k28:(Rows.modelSeenRow.kinds==[])=true:=by kernel_rfl
theorem k29:(Rows.modelSeenRow.pinned==Rows.modelSeenRow.pinnedBy)=true:=by kernel_rfl
theorem k30:(Rows.modelSeenRow.veiled==(Tryz.f5.params.toList++Rows.modelSeenSpec.plain.varTypes Tryz.prog++Tryz.f5.resultTypes.toList).any (Tryz.prog.veiledRec ·))=true:=by kernel_rfl
theorem k31:(Rows.modelSeenRow.veiledFits Tryz.prog Tryz.f5.params.toList (Tryz.f5.params.toList++Rows.modelSeenSpec.plain.varTypes Tryz.prog++Tryz.f5.resultTypes.toList))=true:=by kernel_rfl
theorem closed:joinedFacts Tryz.prog 5 Tryz.f5 Rows.modelSeenSpec Rows.modelSeenRow=true:=a1C k0 X1 a4h k3 k4 k5 a4g k7 a4i k9 k10 k11 k12 k13 k14 k15 k16 k17 k18 k19 k20 k21 k22 k23 a4j a4k k26 k27 k28a k28 k29 k30 k31
theorem over:Rows.modelSeenRow.holds Tryz.pinned (OpenSpec.ofChange Rows.modelSeenSpec):=
  OpenClaim.holds_of_wide 5 Tryz.f5 rfl rfl rfl rfl rfl rfl rfl ⟨rfl,rfl,rfl,rfl,rfl⟩ rfl rfl rfl rfl rfl (by kernel_rfl) Tryz.func5 closed
    (A7 (by kernel_rfl)) (by unfold Func.isWrapper;first | (rw[d8 (by decide+kernel)];kernel_rfl) | (rw[d7 (by decide+kernel)];exact⟨rfl,rfl⟩))
    (λos started H enc _=>lifted os started H enc)
/-- THE STATEMENT -/
theorem proved:Rows.ModelSeenSaid:=over
#print axioms proved
end Go.Proofs.YtpakpgkdpofbhaaGreat.modelSeenClaim
