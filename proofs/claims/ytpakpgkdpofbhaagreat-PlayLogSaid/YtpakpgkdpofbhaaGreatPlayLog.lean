/- Shows that the answer to each step is noted, in order, and that what is told may be turned, as the sentence ostrakonlaw21.PlayLog says. No condition. -/
import Derived.Test.YtpakpgkdpofbhaaGreatC00
import Derived.Test.YtpakpgkdpofbhaaGreatC12
import Derived.Test.YtpakpgkdpofbhaaGreatC24
import Derived.WalkKit
set_option maxRecDepth 20000
set_option linter.all false
/- Shows that the answer to each step is noted, in order, and that what is told may be turned, as the sentence ostrakonlaw21.PlayLog says. No condition. -/
namespace Go.Proofs.YtpakpgkdpofbhaaGreat.playLogClaim
open Go Go.RowKit
open Go.ChangeShapes Go.WideShapes Go.ChangeAt
theorem own:ownKnob Tryz.prog.godebug=none:=by kernel_rfl
set_option maxRecDepth 100000 in
theorem lifted (os : Os) (started : os.Started) (H : Type) (enc : TypeId × Value → H) :
    ReturnsInHanded {} Tryz.checked os 11 .any (Rows.playLogSpec.pre6 enc Tryz.prog Tryz.f11 Rows.playLogRow.domain false) (Rows.playLogSpec.post enc Tryz.prog Tryz.f11 false true false false):=by
  refine returnsInHanded_of_change (C:=Tryz.checked) own started (by kernel_rfl) Tryz.func11
    (ChangeSpec.witness6 (enc:=enc) (C:=Tryz.checked) false ⟨#[],#[.agg #[.int .i64 0, .int .i64 0, .int .i64 0], .slice none 0 0],[]⟩ 8 (by kernel_rfl) (by kernel_rfl) (by kernel_rfl) (by kernel_rfl)) ?_
  intro W base args ds gs before hval0 hW hcnd _;have hval:∀(j:Nat) t v,Tryz.f11.params[j]? =some t->args[j]? =some v->Value.okWide Tryz.prog W .any base t v:=hval0;have hW':=hW;obtain⟨p,q,hA0,hV,rfl,hfz,hnd⟩:=hW;have hA:DataW.TrodAll enc Tryz.prog W 0 (λ_=>true) true Tryz.f11.params.toList args.toList ds p:=hA0;rw[Tryz.params11]at hA hval;obtain⟨v0,vs0,d0,ds0,p0,q0,hargs,rfl,rfl,h0,r0⟩:=trodAll_cons hA;obtain⟨v1,vs1,d1,ds1,p1,q1,rfl,rfl,rfl,h1,r1⟩:=trodAll_cons r0;obtain⟨rfl,rfl,rfl⟩:=trodAll_nil r1;obtain rfl:args= #[v0,v1]:=by cases args;simp_all
  obtain⟨rfl,rfl⟩:=trodVars_none hV;have k0:=h0;have lt0:∀x∈p0,x.block<W.heap.size:=by obtain⟨m,hm⟩:=k0;exact DataW.trod_lt m _ _ _ hm
  obtain⟨c00,c01,c02,y00,y01,y02,n0,rfl,_,_,g00,g01,g02⟩:=Joins.open_agg3 Tryz.underlying23 (by kernel_rfl) (by kernel_rfl) (hval 0 23 v0 rfl rfl) h0;obtain⟨a00,e00⟩:=J0 Tryz.underlying3 g00;obtain⟨a01,e01⟩:=J0 Tryz.underlying3 g01;obtain⟨a02,e02⟩:=J0 Tryz.underlying3 g02;simp only[O1,a5B]at e00 e01 e02;subst e00 e01 e02;have k1:=h1;have lt1:∀x∈p1,x.block<W.heap.size:=by obtain⟨m,hm⟩:=k1;exact DataW.trod_lt m _ _ _ hm
  obtain⟨ad1,a1w,cap1,rfl⟩:=okWide_slice Tryz.underlying70 (hval 1 70 v1 rfl rfl);obtain⟨f1,hf1⟩:=h1;obtain⟨l1,hl1,hd1,hr1⟩:=b3a hf1;clear hA0 hval0;refine(Fn.whole (b5c a00 a01 a02 (frz W) ad1 a1w cap1 l1 (a4I hr1) hl1 hd1)).mono λe W' ⟨he,bel⟩=>?_;subst he;exact⟨_,rfl,_,_,_,[],_,[],hW',trodAll_mk1 (shut_bool Tryz.underlying4 _),(trodAll_cons_mk (Below.trod X1 (by kernel_rfl) (A7 (by kernel_rfl)) k0 bel lt0) (trodAll_cons_mk (Below.trod X1 (by kernel_rfl) (A7 (by kernel_rfl)) k1 bel lt1) trodAll_mk0)),rfl,bel.frame _,λh=>by cases h⟩
theorem k0:(Rows.playLogRow.wf (OpenSpec.ofChange Rows.playLogSpec))=true:=by kernel_rfl
theorem k3:(Tryz.f11.params.all (Tryz.prog.readableRec ·))=true:=by kernel_rfl
theorem k4:(namedTie Tryz.prog Rows.playLogRow.named Rows.playLogSpec.vars)=true:=by kernel_rfl
theorem k5:(Rows.playLogRow.stops==[])=true:=by kernel_rfl
theorem k7:(Rows.playLogRow.knobs==[])=true:=by kernel_rfl
theorem k9:(Rows.playLogRow.inPlace==Tryz.prog.inPlace 11)=true:=by kernel_rfl
theorem k10:(Rows.playLogRow.unfollowed==Tryz.prog.unfollowed 11)=true:=by kernel_rfl
theorem k11:(Rows.playLogRow.recurses==Tryz.prog.recurses 11)=true:=by kernel_rfl
theorem k12:(Rows.playLogRow.named==Tryz.prog.varsNamed 11)=true:=by kernel_rfl
theorem k13:(Rows.playLogRow.maps==(Tryz.f11.params.toList++Rows.playLogSpec.plain.varTypes Tryz.prog).any (Tryz.prog.mapsRec ·))=true:=by kernel_rfl
theorem k14:(Rows.playLogRow.ifaces==(Tryz.f11.params.toList++Rows.playLogSpec.plain.varTypes Tryz.prog).any (Tryz.prog.ifacesRec ·))=true:=by kernel_rfl
theorem k15:(Rows.playLogRow.mapsOut==Tryz.prog.mapsAmong Tryz.f11.resultTypes.toList)=true:=by kernel_rfl
theorem k16:(Rows.playLogRow.loops==(Tryz.f11.params.toList++Rows.playLogSpec.plain.varTypes Tryz.prog).any (Tryz.prog.loopsFrom ·))=true:=by kernel_rfl
theorem k17:(Rows.playLogRow.wideKeys==(Tryz.f11.params.toList++Rows.playLogSpec.plain.varTypes Tryz.prog++Tryz.f11.resultTypes.toList).any (Tryz.prog.wideKeysFrom ·))=true:=by kernel_rfl
theorem k18:(Rows.playLogSpec.vars.all (Tryz.prog.varReadable ·))=true:=by kernel_rfl
theorem k19:(Tryz.f11.resultTypes.all (λt=>Tryz.prog.readableRec t&&decide (t<Tryz.prog.types.size)))=true:=by kernel_rfl
theorem k20:(Rows.playLogRow.ifacesOut==Tryz.f11.resultTypes.toList.any (Tryz.prog.ifacesRec ·))=true:=by kernel_rfl
theorem k21:(Rows.playLogRow.loopsOut==Tryz.f11.resultTypes.toList.any (Tryz.prog.loopsFrom ·))=true:=by kernel_rfl
theorem k22:(Rows.playLogRow.plainKeys==Tryz.prog.plainKeys)=true:=by kernel_rfl
theorem k23:(Rows.playLogRow.shortTexts.isNone)=true:=by kernel_rfl
theorem k26:(Rows.playLogRow.lifted==Tryz.prog.liftsFinal)=true:=by kernel_rfl
theorem k27:(Tryz.prog.make==some Rows.playLogRow.make)=true:=by kernel_rfl
theorem k28a:(Rows.playLogRow.domain.isEmpty)=true:=by kernel_rfl
theorem k28:(Rows.playLogRow.kinds==[])=true:=by kernel_rfl
theorem k29:(Rows.playLogRow.pinned==Rows.playLogRow.pinnedBy)=true:=by kernel_rfl
theorem k30:(Rows.playLogRow.veiled==(Tryz.f11.params.toList++Rows.playLogSpec.plain.varTypes Tryz.prog++Tryz.f11.resultTypes.toList).any (Tryz.prog.veiledRec ·))=true:=by kernel_rfl
theorem k31:(Rows.playLogRow.veiledFits Tryz.prog Tryz.f11.params.toList (Tryz.f11.params.toList++Rows.playLogSpec.plain.varTypes Tryz.prog++Tryz.f11.resultTypes.toList))=true:=by kernel_rfl
theorem closed:joinedFacts Tryz.prog 11 Tryz.f11 Rows.playLogSpec Rows.playLogRow=true:=a1C k0 X1 a4h k3 k4 k5 a4g k7 a4i k9 k10 k11 k12 k13 k14 k15 k16 k17 k18 k19 k20 k21 k22 k23 a4j a4k k26 k27 k28a k28 k29 k30 k31
theorem over:Rows.playLogRow.holds Tryz.pinned (OpenSpec.ofChange Rows.playLogSpec):=
  OpenClaim.holds_of_wide 11 Tryz.f11 rfl rfl rfl rfl rfl rfl rfl ⟨rfl,rfl,rfl,rfl,rfl⟩ rfl rfl rfl rfl rfl (by kernel_rfl) Tryz.func11 closed
    (A7 (by kernel_rfl)) (by unfold Func.isWrapper;first | (rw[d8 (by decide+kernel)];kernel_rfl) | (rw[d7 (by decide+kernel)];exact⟨rfl,rfl⟩))
    (λos started H enc _=>lifted os started H enc)
/-- THE STATEMENT -/
theorem proved:Rows.PlayLogSaid:=over
#print axioms proved
end Go.Proofs.YtpakpgkdpofbhaaGreat.playLogClaim
