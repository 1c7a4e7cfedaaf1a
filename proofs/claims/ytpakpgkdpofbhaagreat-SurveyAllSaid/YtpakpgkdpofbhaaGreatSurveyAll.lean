/- Shows that a scan of any flash finds what stands of each page, what is torn, and which sequence is next, as the sentence ostrakonlaw16.SurveyAll says. No condition. -/
import Derived.Test.YtpakpgkdpofbhaaGreatC00
import Derived.Test.YtpakpgkdpofbhaaGreatC12
import Derived.Test.YtpakpgkdpofbhaaGreatC26
import Derived.WalkKit
set_option maxRecDepth 20000
set_option linter.all false
/- Shows that what the reference reads again of a whole flash stands in the program as well, ostrakonlaw16.SurveyAll. No condition. -/
namespace Go.Proofs.YtpakpgkdpofbhaaGreat.surveyAllClaim
open Go Go.RowKit
open Go.ChangeShapes Go.WideShapes Go.ChangeAt
theorem own:ownKnob Tryz.prog.godebug=none:=by kernel_rfl
set_option maxRecDepth 100000 in
theorem lifted (os : Os) (started : os.Started) (H : Type) (enc : TypeId × Value → H) :
    ReturnsInHanded {} Tryz.checked os 23 .any (Rows.surveyAllSpec.pre6 enc Tryz.prog Tryz.f23 Rows.surveyAllRow.domain false) (Rows.surveyAllSpec.post enc Tryz.prog Tryz.f23 false true false false):=by
  refine returnsInHanded_of_change (C:=Tryz.checked) own started (by kernel_rfl) Tryz.func23
    (ChangeSpec.witness6 (enc:=enc) (C:=Tryz.checked) false ⟨#[],#[.agg #[.int .i64 0, .int .i64 0, .int .i64 0], .slice none 0 0, .slice none 0 0, .slice none 0 0, .int .i64 0],[]⟩ 8 (by kernel_rfl) (by kernel_rfl) (by kernel_rfl) (by kernel_rfl)) ?_
  intro W base args ds gs before hval0 hW hcnd _;have hval:∀(j:Nat) t v,Tryz.f23.params[j]? =some t->args[j]? =some v->Value.okWide Tryz.prog W .any base t v:=hval0;have hW':=hW;obtain⟨p,q,hA0,hV,rfl,hfz,hnd⟩:=hW;have hA:DataW.TrodAll enc Tryz.prog W 0 (λ_=>true) true Tryz.f23.params.toList args.toList ds p:=hA0;rw[Tryz.params23]at hA hval;obtain⟨v0,vs0,d0,ds0,p0,q0,hargs,rfl,rfl,h0,r0⟩:=trodAll_cons hA;obtain⟨v1,vs1,d1,ds1,p1,q1,rfl,rfl,rfl,h1,r1⟩:=trodAll_cons r0;obtain⟨v2,vs2,d2,ds2,p2,q2,rfl,rfl,rfl,h2,r2⟩:=trodAll_cons r1;obtain⟨v3,vs3,d3,ds3,p3,q3,rfl,rfl,rfl,h3,r3⟩:=trodAll_cons r2;obtain⟨v4,vs4,d4,ds4,p4,q4,rfl,rfl,rfl,h4,r4⟩:=trodAll_cons r3;obtain⟨rfl,rfl,rfl⟩:=trodAll_nil r4;obtain rfl:args= #[v0,v1,v2,v3,v4]:=by cases args;simp_all
  obtain⟨rfl,rfl⟩:=trodVars_none hV;have k0:=h0;have lt0:∀x∈p0,x.block<W.heap.size:=by obtain⟨m,hm⟩:=k0;exact DataW.trod_lt m _ _ _ hm
  obtain⟨c00,c01,c02,y00,y01,y02,n0,rfl,_,_,g00,g01,g02⟩:=Joins.open_agg3 Tryz.underlying23 (by kernel_rfl) (by kernel_rfl) (hval 0 23 v0 rfl rfl) h0;obtain⟨a00,e00⟩:=J0 Tryz.underlying3 g00;obtain⟨a01,e01⟩:=J0 Tryz.underlying3 g01;obtain⟨a02,e02⟩:=J0 Tryz.underlying3 g02;simp only[O1,a5B]at e00 e01 e02;subst e00 e01 e02;have k1:=h1;have lt1:∀x∈p1,x.block<W.heap.size:=by obtain⟨m,hm⟩:=k1;exact DataW.trod_lt m _ _ _ hm
  obtain⟨ad1,a1w,cap1,rfl⟩:=okWide_slice Tryz.underlying99 (hval 1 99 v1 rfl rfl);obtain⟨f1,hf1⟩:=h1;obtain⟨l1,hl1,hd1,hr1⟩:=b5p hf1;have k2:=h2;have lt2:∀x∈p2,x.block<W.heap.size:=by obtain⟨m,hm⟩:=k2;exact DataW.trod_lt m _ _ _ hm
  obtain⟨ad2,len2,cap2,rfl⟩:=okWide_slice Tryz.underlying75 (hval 2 75 v2 rfl rfl);obtain⟨f2,hf2⟩:=h2;obtain⟨l2,hl2,hd2,hr2⟩:=b7J hf2;have k3:=h3;have lt3:∀x∈p3,x.block<W.heap.size:=by obtain⟨m,hm⟩:=k3;exact DataW.trod_lt m _ _ _ hm
  obtain⟨ad3,len3,cap3,rfl⟩:=okWide_slice Tryz.underlying100 (hval 3 100 v3 rfl rfl);obtain⟨f3,hf3⟩:=h3;obtain⟨l3,hl3,hd3,hr3⟩:=b7I hf3;obtain⟨a4,rfl,rfl,rfl,w4⟩:=open_int Tryz.underlying3 (hval 4 3 v4 rfl rfl) h4;clear hA0 hval0;refine(Fn.whole (b1m a00 a01 a02 (frz W) ad1 a1w cap1 l1 (a4I hr1) hl1 (λx hx=>(hd1 x hx).ok) ad2 len2 cap2 l2 (a4I hr2) hl2 ad3 len3 cap3 l3 (a4I hr3) hl3 hd3 a4)).mono λe W' ⟨he,bel⟩=>?_;subst he;exact⟨_,rfl,_,_,_,[],_,[],hW',trodAll_mk1 (shut_bool Tryz.underlying4 _),(trodAll_cons_mk (Below.trod X1 (by kernel_rfl) (A7 (by kernel_rfl)) k0 bel lt0) (trodAll_cons_mk (Below.trod X1 (by kernel_rfl) (A7 (by kernel_rfl)) k1 bel lt1) (trodAll_cons_mk (Below.trod X1 (by kernel_rfl) (A7 (by kernel_rfl)) k2 bel lt2) (trodAll_cons_mk (Below.trod X1 (by kernel_rfl) (A7 (by kernel_rfl)) k3 bel lt3) (trodAll_cons_mk (shut_int Tryz.underlying3 w4) trodAll_mk0))))),rfl,bel.frame _,λh=>by cases h⟩
theorem k0:(Rows.surveyAllRow.wf (OpenSpec.ofChange Rows.surveyAllSpec))=true:=by kernel_rfl
theorem k3:(Tryz.f23.params.all (Tryz.prog.readableRec ·))=true:=by kernel_rfl
theorem k4:(namedTie Tryz.prog Rows.surveyAllRow.named Rows.surveyAllSpec.vars)=true:=by kernel_rfl
theorem k5:(Rows.surveyAllRow.stops==[])=true:=by kernel_rfl
theorem k7:(Rows.surveyAllRow.knobs==[])=true:=by kernel_rfl
theorem k9:(Rows.surveyAllRow.inPlace==Tryz.prog.inPlace 23)=true:=by kernel_rfl
theorem k10:(Rows.surveyAllRow.unfollowed==Tryz.prog.unfollowed 23)=true:=by kernel_rfl
theorem k11:(Rows.surveyAllRow.recurses==Tryz.prog.recurses 23)=true:=by kernel_rfl
theorem k12:(Rows.surveyAllRow.named==Tryz.prog.varsNamed 23)=true:=by kernel_rfl
theorem k13:(Rows.surveyAllRow.maps==(Tryz.f23.params.toList++Rows.surveyAllSpec.plain.varTypes Tryz.prog).any (Tryz.prog.mapsRec ·))=true:=by kernel_rfl
theorem k14:(Rows.surveyAllRow.ifaces==(Tryz.f23.params.toList++Rows.surveyAllSpec.plain.varTypes Tryz.prog).any (Tryz.prog.ifacesRec ·))=true:=by kernel_rfl
theorem k15:(Rows.surveyAllRow.mapsOut==Tryz.prog.mapsAmong Tryz.f23.resultTypes.toList)=true:=by kernel_rfl
theorem k16:(Rows.surveyAllRow.loops==(Tryz.f23.params.toList++Rows.surveyAllSpec.plain.varTypes Tryz.prog).any (Tryz.prog.loopsFrom ·))=true:=by kernel_rfl
theorem k17:(Rows.surveyAllRow.wideKeys==(Tryz.f23.params.toList++Rows.surveyAllSpec.plain.varTypes Tryz.prog++Tryz.f23.resultTypes.toList).any (Tryz.prog.wideKeysFrom ·))=true:=by kernel_rfl
theorem k18:(Rows.surveyAllSpec.vars.all (Tryz.prog.varReadable ·))=true:=by kernel_rfl
theorem k19:(Tryz.f23.resultTypes.all (λt=>Tryz.prog.readableRec t&&decide (t<Tryz.prog.types.size)))=true:=by kernel_rfl
theorem k20:(Rows.surveyAllRow.ifacesOut==Tryz.f23.resultTypes.toList.any (Tryz.prog.ifacesRec ·))=true:=by kernel_rfl
theorem k21:(Rows.surveyAllRow.loopsOut==Tryz.f23.resultTypes.toList.any (Tryz.prog.loopsFrom ·))=true:=by kernel_rfl
theorem k22:(Rows.surveyAllRow.plainKeys==Tryz.prog.plainKeys)=true:=by kernel_rfl
theorem k23:(Rows.surveyAllRow.shortTexts.isNone)=true:=by kernel_rfl
theorem k26:(Rows.surveyAllRow.lifted==Tryz.prog.liftsFinal)=true:=by kernel_rfl
theorem k27:(Tryz.prog.make==some Rows.surveyAllRow.make)=true:=by kernel_rfl
theorem k28a:(Rows.surveyAllRow.domain.isEmpty)=true:=by kernel_rfl
theorem k28:(Rows.surveyAllRow.kinds==[])=true:=by kernel_rfl
theorem k29:(Rows.surveyAllRow.pinned==Rows.surveyAllRow.pinnedBy)=true:=by kernel_rfl
theorem k30:(Rows.surveyAllRow.veiled==(Tryz.f23.params.toList++Rows.surveyAllSpec.plain.varTypes Tryz.prog++Tryz.f23.resultTypes.toList).any (Tryz.prog.veiledRec ·))=true:=by kernel_rfl
theorem k31:(Rows.surveyAllRow.veiledFits Tryz.prog Tryz.f23.params.toList (Tryz.f23.params.toList++Rows.surveyAllSpec.plain.varTypes Tryz.prog++Tryz.f23.resultTypes.toList))=true:=by kernel_rfl
theorem closed:joinedFacts Tryz.prog 23 Tryz.f23 Rows.surveyAllSpec Rows.surveyAllRow=true:=a1C k0 X1 a4h k3 k4 k5 a4g k7 a4i k9 k10 k11 k12 k13 k14 k15 k16 k17 k18 k19 k20 k21 k22 k23 a4j a4k k26 k27 k28a k28 k29 k30 k31
theorem over:Rows.surveyAllRow.holds Tryz.pinned (OpenSpec.ofChange Rows.surveyAllSpec):=
  OpenClaim.holds_of_wide 23 Tryz.f23 rfl rfl rfl rfl rfl rfl rfl ⟨rfl,rfl,rfl,rfl,rfl⟩ rfl rfl rfl rfl rfl (by kernel_rfl) Tryz.func23 closed
    (A7 (by kernel_rfl)) (by unfold Func.isWrapper;first | (rw[d8 (by decide+kernel)];kernel_rfl) | (rw[d7 (by decide+kernel)];exact⟨rfl,rfl⟩))
    (λos started H enc _=>lifted os started H enc)
/-- THE STATEMENT -/
theorem proved:Rows.SurveyAllSaid:=over
#print axioms proved
end Go.Proofs.YtpakpgkdpofbhaaGreat.surveyAllClaim
