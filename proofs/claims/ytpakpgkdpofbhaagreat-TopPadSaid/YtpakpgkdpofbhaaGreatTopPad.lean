/- Shows that each write may be flushed by itself, rows are filled up, room is made again and again, as the sentence ostrakontop.TopPad says. No condition. -/
import Derived.Test.YtpakpgkdpofbhaaGreatA00
import Derived.Test.YtpakpgkdpofbhaaGreatA12
import Derived.Test.YtpakpgkdpofbhaaGreatA18
import Derived.Test.YtpakpgkdpofbhaaGreatA20
import Derived.WalkKit
set_option maxRecDepth 20000
set_option linter.all false
/- Shows that each write may be flushed by itself, rows are filled up, room is made again and again, as the sentence ostrakontop.TopPad says. No condition. -/
namespace Go.Proofs.YtpakpgkdpofbhaaGreat.topPadClaim
open Go Go.RowKit
open Go.ChangeShapes Go.WideShapes Go.ChangeAt
theorem own:ownKnob Tryz.prog.godebug=none:=by kernel_rfl
set_option maxRecDepth 100000 in
theorem lifted (os : Os) (started : os.Started) (H : Type) (enc : TypeId × Value → H) :
    ReturnsInHanded {} Tryz.checked os 18 .any (Rows.topPadSpec.pre6 enc Tryz.prog Tryz.f18 Rows.topPadRow.domain false) (Rows.topPadSpec.post enc Tryz.prog Tryz.f18 false true false false):=by
  refine returnsInHanded_of_change (C:=Tryz.checked) own started (by kernel_rfl) Tryz.func18
    (ChangeSpec.witness6 (enc:=enc) (C:=Tryz.checked) false ⟨#[],#[.agg #[.int .i64 0, .int .i64 0, .int .i64 0], .slice none 0 0],[]⟩ 8 (by kernel_rfl) (by kernel_rfl) (by kernel_rfl) (by kernel_rfl)) ?_
  intro W base args ds gs before hval0 hW hcnd _;have hval:∀(j:Nat) t v,Tryz.f18.params[j]? =some t->args[j]? =some v->Value.okWide Tryz.prog W .any base t v:=hval0;have hW':=hW;obtain⟨p,q,hA0,hV,rfl,hfz,hnd⟩:=hW;have hA:DataW.TrodAll enc Tryz.prog W 0 (λ_=>true) true Tryz.f18.params.toList args.toList ds p:=hA0;rw[Tryz.params18]at hA hval;obtain⟨v0,vs0,d0,ds0,p0,q0,hargs,rfl,rfl,h0,r0⟩:=trodAll_cons hA;obtain⟨v1,vs1,d1,ds1,p1,q1,rfl,rfl,rfl,h1,r1⟩:=trodAll_cons r0;obtain⟨rfl,rfl,rfl⟩:=trodAll_nil r1;obtain rfl:args= #[v0,v1]:=by cases args;simp_all
  obtain⟨rfl,rfl⟩:=trodVars_none hV;have k0:=h0;have lt0:∀x∈p0,x.block<W.heap.size:=by obtain⟨m,hm⟩:=k0;exact DataW.trod_lt m _ _ _ hm
  obtain⟨c00,c01,c02,y00,y01,y02,n0,rfl,_,_,g00,g01,g02⟩:=Joins.open_agg3 Tryz.underlying23 (by kernel_rfl) (by kernel_rfl) (hval 0 23 v0 rfl rfl) h0;obtain⟨a00,e00⟩:=M4 Tryz.underlying3 g00;obtain⟨a01,e01⟩:=M4 Tryz.underlying3 g01;obtain⟨a02,e02⟩:=M4 Tryz.underlying3 g02;simp only[K5,a2q]at e00 e01 e02;subst e00 e01 e02;have k1:=h1;have lt1:∀x∈p1,x.block<W.heap.size:=by obtain⟨m,hm⟩:=k1;exact DataW.trod_lt m _ _ _ hm
  obtain⟨ad1,len1,cap1,rfl⟩:=okWide_slice Tryz.underlying35 (hval 1 35 v1 rfl rfl);obtain⟨f1,hf1⟩:=h1;obtain⟨l1,hl1,hd1,hr1⟩:=a9W hf1;clear hA0 hval0;refine(Fn.whole (b7m a00 a01 a02 (frz W) ad1 len1 cap1 l1 (b3Q hr1) hl1 hd1)).mono λe W' ⟨he,bel⟩=>?_;subst he;exact⟨_,rfl,_,_,_,[],_,[],hW',trodAll_mk1 (shut_bool Tryz.underlying4 _),(trodAll_cons_mk (Below.trod a0I (by kernel_rfl) (D9 (by kernel_rfl)) k0 bel lt0) (trodAll_cons_mk (Below.trod a0I (by kernel_rfl) (D9 (by kernel_rfl)) k1 bel lt1) trodAll_mk0)),rfl,bel.frame _,λh=>by cases h⟩
theorem k0:(Rows.topPadRow.wf (OpenSpec.ofChange Rows.topPadSpec))=true:=by kernel_rfl
theorem k3:(Tryz.f18.params.all (Tryz.prog.readableRec ·))=true:=by kernel_rfl
theorem k4:(namedTie Tryz.prog Rows.topPadRow.named Rows.topPadSpec.vars)=true:=by kernel_rfl
theorem k5:(Rows.topPadRow.stops==[])=true:=by kernel_rfl
theorem k7:(Rows.topPadRow.knobs==[])=true:=by kernel_rfl
theorem k9:(Rows.topPadRow.inPlace==Tryz.prog.inPlace 18)=true:=by kernel_rfl
theorem k10:(Rows.topPadRow.unfollowed==Tryz.prog.unfollowed 18)=true:=by kernel_rfl
theorem k11:(Rows.topPadRow.recurses==Tryz.prog.recurses 18)=true:=by kernel_rfl
theorem k12:(Rows.topPadRow.named==Tryz.prog.varsNamed 18)=true:=by kernel_rfl
theorem k13:(Rows.topPadRow.maps==(Tryz.f18.params.toList++Rows.topPadSpec.plain.varTypes Tryz.prog).any (Tryz.prog.mapsRec ·))=true:=by kernel_rfl
theorem k14:(Rows.topPadRow.ifaces==(Tryz.f18.params.toList++Rows.topPadSpec.plain.varTypes Tryz.prog).any (Tryz.prog.ifacesRec ·))=true:=by kernel_rfl
theorem k15:(Rows.topPadRow.mapsOut==Tryz.prog.mapsAmong Tryz.f18.resultTypes.toList)=true:=by kernel_rfl
theorem k16:(Rows.topPadRow.loops==(Tryz.f18.params.toList++Rows.topPadSpec.plain.varTypes Tryz.prog).any (Tryz.prog.loopsFrom ·))=true:=by kernel_rfl
theorem k17:(Rows.topPadRow.wideKeys==(Tryz.f18.params.toList++Rows.topPadSpec.plain.varTypes Tryz.prog++Tryz.f18.resultTypes.toList).any (Tryz.prog.wideKeysFrom ·))=true:=by kernel_rfl
theorem k18:(Rows.topPadSpec.vars.all (Tryz.prog.varReadable ·))=true:=by kernel_rfl
theorem k19:(Tryz.f18.resultTypes.all (λt=>Tryz.prog.readableRec t&&decide (t<Tryz.prog.types.size)))=true:=by kernel_rfl
theorem k20:(Rows.topPadRow.ifacesOut==Tryz.f18.resultTypes.toList.any (Tryz.prog.ifacesRec ·))=true:=by kernel_rfl
theorem k21:(Rows.topPadRow.loopsOut==Tryz.f18.resultTypes.toList.any (Tryz.prog.loopsFrom ·))=true:=by kernel_rfl
theorem k22:(Rows.topPadRow.plainKeys==Tryz.prog.plainKeys)=true:=by kernel_rfl
theorem k23:(Rows.topPadRow.shortTexts.isNone)=true:=by kernel_rfl
theorem k26:(Rows.topPadRow.lifted==Tryz.prog.liftsFinal)=true:=by kernel_rfl
theorem k27:(Tryz.prog.make==some Rows.topPadRow.make)=true:=by kernel_rfl
theorem k28a:(Rows.topPadRow.domain.isEmpty)=true:=by kernel_rfl
theorem k28:(Rows.topPadRow.kinds==[])=true:=by kernel_rfl
theorem k29:(Rows.topPadRow.pinned==Rows.topPadRow.pinnedBy)=true:=by kernel_rfl
theorem k30:(Rows.topPadRow.veiled==(Tryz.f18.params.toList++Rows.topPadSpec.plain.varTypes Tryz.prog++Tryz.f18.resultTypes.toList).any (Tryz.prog.veiledRec ·))=true:=by kernel_rfl
theorem k31:(Rows.topPadRow.veiledFits Tryz.prog Tryz.f18.params.toList (Tryz.f18.params.toList++Rows.topPadSpec.plain.varTypes Tryz.prog++Tryz.f18.resultTypes.toList))=true:=by kernel_rfl
theorem closed:joinedFacts Tryz.prog 18 Tryz.f18 Rows.topPadSpec Rows.topPadRow=true:=a1T k0 a0I a4B k3 k4 k5 a4A k7 a4C k9 k10 k11 k12 k13 k14 k15 k16 k17 k18 k19 k20 k21 k22 k23 a4D a4E k26 k27 k28a k28 k29 k30 k31
theorem over:Rows.topPadRow.holds Tryz.pinned (OpenSpec.ofChange Rows.topPadSpec):=
  OpenClaim.holds_of_wide 18 Tryz.f18 rfl rfl rfl rfl rfl rfl rfl ⟨rfl,rfl,rfl,rfl,rfl⟩ rfl rfl rfl rfl rfl (by kernel_rfl) Tryz.func18 closed
    (D9 (by kernel_rfl)) (by unfold Func.isWrapper;first | (rw[g7 (by decide+kernel)];kernel_rfl) | (rw[f9 (by decide+kernel)];exact⟨rfl,rfl⟩))
    (λos started H enc _=>lifted os started H enc)
/-- THE STATEMENT -/
theorem proved:Rows.TopPadSaid:=over
#print axioms proved
end Go.Proofs.YtpakpgkdpofbhaaGreat.topPadClaim
