/- Shows that pages of one die may not be read any more, or be spoilt, and all is read by the other dies, behind a power cycle too, as the sentence ostrakontop.TopReads says. No condition. -/
import Derived.Test.YtpakpgkdpofbhaaGreatD00
import Derived.Test.YtpakpgkdpofbhaaGreatD14
import Derived.Test.YtpakpgkdpofbhaaGreatD19
import Derived.WalkKit
set_option maxRecDepth 20000
set_option linter.all false
/- Shows that pages of one die may not be read any more, or be spoilt, and all is read by the other dies, behind a power cycle too, as the sentence ostrakontop.TopReads says. No condition. -/
namespace Go.Proofs.YtpakpgkdpofbhaaGreat.topReadsClaim
open Go Go.RowKit
open Go.ChangeShapes Go.WideShapes Go.ChangeAt
theorem own:ownKnob Tryz.prog.godebug=none:=by kernel_rfl
set_option maxRecDepth 100000 in
theorem lifted (os : Os) (started : os.Started) (H : Type) (enc : TypeId × Value → H) :
    ReturnsInHanded {} Tryz.checked os 21 .any (Rows.topReadsSpec.pre6 enc Tryz.prog Tryz.f21 Rows.topReadsRow.domain false) (Rows.topReadsSpec.post enc Tryz.prog Tryz.f21 false true false false):=by
  refine returnsInHanded_of_change (C:=Tryz.checked) own started (by kernel_rfl) Tryz.func21
    (ChangeSpec.witness6 (enc:=enc) (C:=Tryz.checked) false ⟨#[],#[.agg #[.int .i64 0, .int .i64 0, .int .i64 0], .int .i64 0, .slice none 0 0],[]⟩ 8 (by kernel_rfl) (by kernel_rfl) (by kernel_rfl) (by kernel_rfl)) ?_
  intro W base args ds gs before hval0 hW hcnd _;have hval:∀(j:Nat) t v,Tryz.f21.params[j]? =some t->args[j]? =some v->Value.okWide Tryz.prog W .any base t v:=hval0;have hW':=hW;obtain⟨p,q,hA0,hV,rfl,hfz,hnd⟩:=hW;have hA:DataW.TrodAll enc Tryz.prog W 0 (λ_=>true) true Tryz.f21.params.toList args.toList ds p:=hA0;rw[Tryz.params21]at hA hval;obtain⟨v0,vs0,d0,ds0,p0,q0,hargs,rfl,rfl,h0,r0⟩:=trodAll_cons hA;obtain⟨v1,vs1,d1,ds1,p1,q1,rfl,rfl,rfl,h1,r1⟩:=trodAll_cons r0;obtain⟨v2,vs2,d2,ds2,p2,q2,rfl,rfl,rfl,h2,r2⟩:=trodAll_cons r1;obtain⟨rfl,rfl,rfl⟩:=trodAll_nil r2;obtain rfl:args= #[v0,v1,v2]:=by cases args;simp_all
  obtain⟨rfl,rfl⟩:=trodVars_none hV;have k0:=h0;have lt0:∀x∈p0,x.block<W.heap.size:=by obtain⟨m,hm⟩:=k0;exact DataW.trod_lt m _ _ _ hm
  obtain⟨c00,c01,c02,y00,y01,y02,n0,rfl,_,_,g00,g01,g02⟩:=Joins.open_agg3 Tryz.underlying23 (by kernel_rfl) (by kernel_rfl) (hval 0 23 v0 rfl rfl) h0;obtain⟨a00,e00⟩:=b0m Tryz.underlying3 g00;obtain⟨a01,e01⟩:=b0m Tryz.underlying3 g01;obtain⟨a02,e02⟩:=b0m Tryz.underlying3 g02;simp only[Z6,and_true]at e00 e01 e02;subst e00 e01 e02;obtain⟨a1,rfl,rfl,rfl,w1⟩:=open_int Tryz.underlying3 (hval 1 3 v1 rfl rfl) h1;have k2:=h2;have lt2:∀x∈p2,x.block<W.heap.size:=by obtain⟨m,hm⟩:=k2;exact DataW.trod_lt m _ _ _ hm
  obtain⟨ad2,len2,cap2,rfl⟩:=okWide_slice Tryz.underlying35 (hval 2 35 v2 rfl rfl);obtain⟨f2,hf2⟩:=h2;obtain⟨l2,hl2,hd2,hr2⟩:=b4D hf2;clear hA0 hval0;refine(Fn.whole (b2z a00 a01 a02 a1 (frz W) ad2 len2 cap2 l2 (c1c hr2) hl2 hd2)).mono λe W' ⟨he,bel⟩=>?_;subst he;exact⟨_,rfl,_,_,_,[],_,[],hW',trodAll_mk1 (shut_bool Tryz.underlying4 _),(trodAll_cons_mk (Below.trod b2W (by kernel_rfl) (a2D (by kernel_rfl)) k0 bel lt0) (trodAll_cons_mk (shut_int Tryz.underlying3 w1) (trodAll_cons_mk (Below.trod b2W (by kernel_rfl) (a2D (by kernel_rfl)) k2 bel lt2) trodAll_mk0))),rfl,bel.frame _,λh=>by cases h⟩
theorem k0:(Rows.topReadsRow.wf (OpenSpec.ofChange Rows.topReadsSpec))=true:=by kernel_rfl
theorem k3:(Tryz.f21.params.all (Tryz.prog.readableRec ·))=true:=by kernel_rfl
theorem k4:(namedTie Tryz.prog Rows.topReadsRow.named Rows.topReadsSpec.vars)=true:=by kernel_rfl
theorem k5:(Rows.topReadsRow.stops==[])=true:=by kernel_rfl
theorem k7:(Rows.topReadsRow.knobs==[])=true:=by kernel_rfl
theorem k9:(Rows.topReadsRow.inPlace==Tryz.prog.inPlace 21)=true:=by kernel_rfl
theorem k10:(Rows.topReadsRow.unfollowed==Tryz.prog.unfollowed 21)=true:=by kernel_rfl
theorem k11:(Rows.topReadsRow.recurses==Tryz.prog.recurses 21)=true:=by kernel_rfl
theorem k12:(Rows.topReadsRow.named==Tryz.prog.varsNamed 21)=true:=by kernel_rfl
theorem k13:(Rows.topReadsRow.maps==(Tryz.f21.params.toList++Rows.topReadsSpec.plain.varTypes Tryz.prog).any (Tryz.prog.mapsRec ·))=true:=by kernel_rfl
theorem k14:(Rows.topReadsRow.ifaces==(Tryz.f21.params.toList++Rows.topReadsSpec.plain.varTypes Tryz.prog).any (Tryz.prog.ifacesRec ·))=true:=by kernel_rfl
theorem k15:(Rows.topReadsRow.mapsOut==Tryz.prog.mapsAmong Tryz.f21.resultTypes.toList)=true:=by kernel_rfl
theorem k16:(Rows.topReadsRow.loops==(Tryz.f21.params.toList++Rows.topReadsSpec.plain.varTypes Tryz.prog).any (Tryz.prog.loopsFrom ·))=true:=by kernel_rfl
theorem k17:(Rows.topReadsRow.wideKeys==(Tryz.f21.params.toList++Rows.topReadsSpec.plain.varTypes Tryz.prog++Tryz.f21.resultTypes.toList).any (Tryz.prog.wideKeysFrom ·))=true:=by kernel_rfl
theorem k18:(Rows.topReadsSpec.vars.all (Tryz.prog.varReadable ·))=true:=by kernel_rfl
theorem k19:(Tryz.f21.resultTypes.all (λt=>Tryz.prog.readableRec t&&decide (t<Tryz.prog.types.size)))=true:=by kernel_rfl
theorem k20:(Rows.topReadsRow.ifacesOut==Tryz.f21.resultTypes.toList.any (Tryz.prog.ifacesRec ·))=true:=by kernel_rfl
theorem k21:(Rows.topReadsRow.loopsOut==Tryz.f21.resultTypes.toList.any (Tryz.prog.loopsFrom ·))=true:=by kernel_rfl
theorem k22:(Rows.topReadsRow.plainKeys==Tryz.prog.plainKeys)=true:=by kernel_rfl
theorem k23:(Rows.topReadsRow.shortTexts.isNone)=true:=by kernel_rfl
theorem k26:(Rows.topReadsRow.lifted==Tryz.prog.liftsFinal)=true:=by kernel_rfl
theorem k27:(Tryz.prog.make==some Rows.topReadsRow.make)=true:=by kernel_rfl
theorem k28a:(Rows.topReadsRow.domain.isEmpty)=true:=by kernel_rfl
theorem k28:(Rows.topReadsRow.kinds==[])=true:=by kernel_rfl
theorem k29:(Rows.topReadsRow.pinned==Rows.topReadsRow.pinnedBy)=true:=by kernel_rfl
theorem k30:(Rows.topReadsRow.veiled==(Tryz.f21.params.toList++Rows.topReadsSpec.plain.varTypes Tryz.prog++Tryz.f21.resultTypes.toList).any (Tryz.prog.veiledRec ·))=true:=by kernel_rfl
theorem k31:(Rows.topReadsRow.veiledFits Tryz.prog Tryz.f21.params.toList (Tryz.f21.params.toList++Rows.topReadsSpec.plain.varTypes Tryz.prog++Tryz.f21.resultTypes.toList))=true:=by kernel_rfl
theorem closed:joinedFacts Tryz.prog 21 Tryz.f21 Rows.topReadsSpec Rows.topReadsRow=true:=b4V k0 b2W b9w k3 k4 k5 b9v k7 b9x k9 k10 k11 k12 k13 k14 k15 k16 k17 k18 k19 k20 k21 k22 k23 b9y b9z k26 k27 k28a k28 k29 k30 k31
theorem over:Rows.topReadsRow.holds Tryz.pinned (OpenSpec.ofChange Rows.topReadsSpec):=
  OpenClaim.holds_of_wide 21 Tryz.f21 rfl rfl rfl rfl rfl rfl rfl ⟨rfl,rfl,rfl,rfl,rfl⟩ rfl rfl rfl rfl rfl (by kernel_rfl) Tryz.func21 closed
    (a2D (by kernel_rfl)) (by unfold Func.isWrapper;first | (rw[f9 (by decide+kernel)];kernel_rfl) | (rw[f8 (by decide+kernel)];exact⟨rfl,rfl⟩))
    (λos started H enc _=>lifted os started H enc)
/-- THE STATEMENT -/
theorem proved:Rows.TopReadsSaid:=over
#print axioms proved
end Go.Proofs.YtpakpgkdpofbhaaGreat.topReadsClaim
