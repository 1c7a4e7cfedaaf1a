/- Shows that blocks of one die may not be erased any more, and all is kept and written as before, behind a power cycle too, as the sentence ostrakontop.TopErases says. No condition. -/
import Derived.Test.YtpakpgkdpofbhaaGreatE00
import Derived.Test.YtpakpgkdpofbhaaGreatE14
import Derived.Test.YtpakpgkdpofbhaaGreatE19
import Derived.WalkKit
set_option maxRecDepth 20000
set_option linter.all false
/- Shows that blocks of one die may not be erased any more, and all is kept and written as before, behind a power cycle too, as the sentence ostrakontop.TopErases says. No condition. -/
namespace Go.Proofs.YtpakpgkdpofbhaaGreat.topErasesClaim
open Go Go.RowKit
open Go.ChangeShapes Go.WideShapes Go.ChangeAt
theorem own:ownKnob Tryz.prog.godebug=none:=by kernel_rfl
set_option maxRecDepth 100000 in
theorem lifted (os : Os) (started : os.Started) (H : Type) (enc : TypeId × Value → H) :
    ReturnsInHanded {} Tryz.checked os 20 .any (Rows.topErasesSpec.pre6 enc Tryz.prog Tryz.f20 Rows.topErasesRow.domain false) (Rows.topErasesSpec.post enc Tryz.prog Tryz.f20 false true false false):=by
  refine returnsInHanded_of_change (C:=Tryz.checked) own started (by kernel_rfl) Tryz.func20
    (ChangeSpec.witness6 (enc:=enc) (C:=Tryz.checked) false ⟨#[],#[.agg #[.int .i64 0, .int .i64 0, .int .i64 0], .int .i64 0, .slice none 0 0],[]⟩ 8 (by kernel_rfl) (by kernel_rfl) (by kernel_rfl) (by kernel_rfl)) ?_
  intro W base args ds gs before hval0 hW hcnd _;have hval:∀(j:Nat) t v,Tryz.f20.params[j]? =some t->args[j]? =some v->Value.okWide Tryz.prog W .any base t v:=hval0;have hW':=hW;obtain⟨p,q,hA0,hV,rfl,hfz,hnd⟩:=hW;have hA:DataW.TrodAll enc Tryz.prog W 0 (λ_=>true) true Tryz.f20.params.toList args.toList ds p:=hA0;rw[Tryz.params20]at hA hval;obtain⟨v0,vs0,d0,ds0,p0,q0,hargs,rfl,rfl,h0,r0⟩:=trodAll_cons hA;obtain⟨v1,vs1,d1,ds1,p1,q1,rfl,rfl,rfl,h1,r1⟩:=trodAll_cons r0;obtain⟨v2,vs2,d2,ds2,p2,q2,rfl,rfl,rfl,h2,r2⟩:=trodAll_cons r1;obtain⟨rfl,rfl,rfl⟩:=trodAll_nil r2;obtain rfl:args= #[v0,v1,v2]:=by cases args;simp_all
  obtain⟨rfl,rfl⟩:=trodVars_none hV;have k0:=h0;have lt0:∀x∈p0,x.block<W.heap.size:=by obtain⟨m,hm⟩:=k0;exact DataW.trod_lt m _ _ _ hm
  obtain⟨c00,c01,c02,y00,y01,y02,n0,rfl,_,_,g00,g01,g02⟩:=Joins.open_agg3 Tryz.underlying23 (by kernel_rfl) (by kernel_rfl) (hval 0 23 v0 rfl rfl) h0;obtain⟨a00,e00⟩:=a9W Tryz.underlying3 g00;obtain⟨a01,e01⟩:=a9W Tryz.underlying3 g01;obtain⟨a02,e02⟩:=a9W Tryz.underlying3 g02;simp only[X9,and_true]at e00 e01 e02;subst e00 e01 e02;obtain⟨a1,rfl,rfl,rfl,w1⟩:=open_int Tryz.underlying3 (hval 1 3 v1 rfl rfl) h1;have k2:=h2;have lt2:∀x∈p2,x.block<W.heap.size:=by obtain⟨m,hm⟩:=k2;exact DataW.trod_lt m _ _ _ hm
  obtain⟨ad2,len2,cap2,rfl⟩:=okWide_slice Tryz.underlying35 (hval 2 35 v2 rfl rfl);obtain⟨f2,hf2⟩:=h2;obtain⟨l2,hl2,hd2,hr2⟩:=b4h hf2;clear hA0 hval0;refine(Fn.whole (b0Q a00 a01 a02 a1 (frz W) ad2 len2 cap2 l2 (c0N hr2) hl2 hd2)).mono λe W' ⟨he,bel⟩=>?_;subst he;exact⟨_,rfl,_,_,_,[],_,[],hW',trodAll_mk1 (shut_bool Tryz.underlying4 _),(trodAll_cons_mk (Below.trod b2z (by kernel_rfl) (a2p (by kernel_rfl)) k0 bel lt0) (trodAll_cons_mk (shut_int Tryz.underlying3 w1) (trodAll_cons_mk (Below.trod b2z (by kernel_rfl) (a2p (by kernel_rfl)) k2 bel lt2) trodAll_mk0))),rfl,bel.frame _,λh=>by cases h⟩
theorem k0:(Rows.topErasesRow.wf (OpenSpec.ofChange Rows.topErasesSpec))=true:=by kernel_rfl
theorem k3:(Tryz.f20.params.all (Tryz.prog.readableRec ·))=true:=by kernel_rfl
theorem k4:(namedTie Tryz.prog Rows.topErasesRow.named Rows.topErasesSpec.vars)=true:=by kernel_rfl
theorem k5:(Rows.topErasesRow.stops==[])=true:=by kernel_rfl
theorem k7:(Rows.topErasesRow.knobs==[])=true:=by kernel_rfl
theorem k9:(Rows.topErasesRow.inPlace==Tryz.prog.inPlace 20)=true:=by kernel_rfl
theorem k10:(Rows.topErasesRow.unfollowed==Tryz.prog.unfollowed 20)=true:=by kernel_rfl
theorem k11:(Rows.topErasesRow.recurses==Tryz.prog.recurses 20)=true:=by kernel_rfl
theorem k12:(Rows.topErasesRow.named==Tryz.prog.varsNamed 20)=true:=by kernel_rfl
theorem k13:(Rows.topErasesRow.maps==(Tryz.f20.params.toList++Rows.topErasesSpec.plain.varTypes Tryz.prog).any (Tryz.prog.mapsRec ·))=true:=by kernel_rfl
theorem k14:(Rows.topErasesRow.ifaces==(Tryz.f20.params.toList++Rows.topErasesSpec.plain.varTypes Tryz.prog).any (Tryz.prog.ifacesRec ·))=true:=by kernel_rfl
theorem k15:(Rows.topErasesRow.mapsOut==Tryz.prog.mapsAmong Tryz.f20.resultTypes.toList)=true:=by kernel_rfl
theorem k16:(Rows.topErasesRow.loops==(Tryz.f20.params.toList++Rows.topErasesSpec.plain.varTypes Tryz.prog).any (Tryz.prog.loopsFrom ·))=true:=by kernel_rfl
theorem k17:(Rows.topErasesRow.wideKeys==(Tryz.f20.params.toList++Rows.topErasesSpec.plain.varTypes Tryz.prog++Tryz.f20.resultTypes.toList).any (Tryz.prog.wideKeysFrom ·))=true:=by kernel_rfl
theorem k18:(Rows.topErasesSpec.vars.all (Tryz.prog.varReadable ·))=true:=by kernel_rfl
theorem k19:(Tryz.f20.resultTypes.all (λt=>Tryz.prog.readableRec t&&decide (t<Tryz.prog.types.size)))=true:=by kernel_rfl
theorem k20:(Rows.topErasesRow.ifacesOut==Tryz.f20.resultTypes.toList.any (Tryz.prog.ifacesRec ·))=true:=by kernel_rfl
theorem k21:(Rows.topErasesRow.loopsOut==Tryz.f20.resultTypes.toList.any (Tryz.prog.loopsFrom ·))=true:=by kernel_rfl
theorem k22:(Rows.topErasesRow.plainKeys==Tryz.prog.plainKeys)=true:=by kernel_rfl
theorem k23:(Rows.topErasesRow.shortTexts.isNone)=true:=by kernel_rfl
theorem k26:(Rows.topErasesRow.lifted==Tryz.prog.liftsFinal)=true:=by kernel_rfl
theorem k27:(Tryz.prog.make==some Rows.topErasesRow.make)=true:=by kernel_rfl
theorem k28a:(Rows.topErasesRow.domain.isEmpty)=true:=by kernel_rfl
theorem k28:(Rows.topErasesRow.kinds==[])=true:=by kernel_rfl
theorem k29:(Rows.topErasesRow.pinned==Rows.topErasesRow.pinnedBy)=true:=by kernel_rfl
theorem k30:(Rows.topErasesRow.veiled==(Tryz.f20.params.toList++Rows.topErasesSpec.plain.varTypes Tryz.prog++Tryz.f20.resultTypes.toList).any (Tryz.prog.veiledRec ·))=true:=by kernel_rfl
theorem k31:(Rows.topErasesRow.veiledFits Tryz.prog Tryz.f20.params.toList (Tryz.f20.params.toList++Rows.topErasesSpec.plain.varTypes Tryz.prog++Tryz.f20.resultTypes.toList))=true:=by kernel_rfl
theorem closed:joinedFacts Tryz.prog 20 Tryz.f20 Rows.topErasesSpec Rows.topErasesRow=true:=b4A k0 b2z b9h k3 k4 k5 b9g k7 b9i k9 k10 k11 k12 k13 k14 k15 k16 k17 k18 k19 k20 k21 k22 k23 b9j b9k k26 k27 k28a k28 k29 k30 k31
theorem over:Rows.topErasesRow.holds Tryz.pinned (OpenSpec.ofChange Rows.topErasesSpec):=
  OpenClaim.holds_of_wide 20 Tryz.f20 rfl rfl rfl rfl rfl rfl rfl ⟨rfl,rfl,rfl,rfl,rfl⟩ rfl rfl rfl rfl rfl (by kernel_rfl) Tryz.func20 closed
    (a2p (by kernel_rfl)) (by unfold Func.isWrapper;first | (rw[i3 (by decide+kernel)];kernel_rfl) | (rw[g7 (by decide+kernel)];exact⟨rfl,rfl⟩))
    (λos started H enc _=>lifted os started H enc)
/-- THE STATEMENT -/
theorem proved:Rows.TopErasesSaid:=over
#print axioms proved
end Go.Proofs.YtpakpgkdpofbhaaGreat.topErasesClaim
