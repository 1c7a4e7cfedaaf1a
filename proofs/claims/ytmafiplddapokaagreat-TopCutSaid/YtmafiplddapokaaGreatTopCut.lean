/- Shows that power may go at any operation of a write of all pages, and each page reads as the old one or the new one behind it, what was flushed as the new one, as the sentence ostrakontop.TopCut says. No condition. -/
import Derived.Test.YtmafiplddapokaaGreatS00
import Derived.Test.YtmafiplddapokaaGreatS13
import Derived.Test.YtmafiplddapokaaGreatS19
import Derived.WalkKit
set_option maxRecDepth 20000
set_option linter.all false
/- Shows that power may go at any operation of a write of all pages, and each page reads as the old one or the new one behind it, what was flushed as the new one, as the sentence ostrakontop.TopCut says. No condition. -/
namespace Go.Proofs.YtmafiplddapokaaGreat.topCutClaim
open Go Go.RowKit
open Go.ChangeShapes Go.WideShapes Go.ChangeAt
theorem own:ownKnob Tryz.prog.godebug=none:=by kernel_rfl
set_option maxRecDepth 100000 in
theorem lifted (os : Os) (started : os.Started) (H : Type) (enc : TypeId × Value → H) :
    ReturnsInHanded {} Tryz.checked os 5 .any (Rows.topCutSpec.pre6 enc Tryz.prog Tryz.f5 Rows.topCutRow.domain false) (Rows.topCutSpec.post enc Tryz.prog Tryz.f5 false true false false):=by
  refine returnsInHanded_of_change (C:=Tryz.checked) own started (by kernel_rfl) Tryz.func5
    (ChangeSpec.witness6 (enc:=enc) (C:=Tryz.checked) false ⟨#[],#[.agg #[.int .i64 0, .int .i64 0, .int .i64 0], .int .i64 0, .int .i64 0],[]⟩ 8 (by kernel_rfl) (by kernel_rfl) (by kernel_rfl) (by kernel_rfl)) ?_
  intro W base args ds gs before hval0 hW hcnd _;have hval:∀(j:Nat) t v,Tryz.f5.params[j]? =some t->args[j]? =some v->Value.okWide Tryz.prog W .any base t v:=hval0;have hW':=hW;obtain⟨p,q,hA0,hV,rfl,hfz,hnd⟩:=hW;have hA:DataW.TrodAll enc Tryz.prog W 0 (λ_=>true) true Tryz.f5.params.toList args.toList ds p:=hA0;rw[Tryz.params5]at hA hval;obtain⟨v0,vs0,d0,ds0,p0,q0,hargs,rfl,rfl,h0,r0⟩:=trodAll_cons hA;obtain⟨v1,vs1,d1,ds1,p1,q1,rfl,rfl,rfl,h1,r1⟩:=trodAll_cons r0;obtain⟨v2,vs2,d2,ds2,p2,q2,rfl,rfl,rfl,h2,r2⟩:=trodAll_cons r1;obtain⟨rfl,rfl,rfl⟩:=trodAll_nil r2;obtain rfl:args= #[v0,v1,v2]:=by cases args;simp_all
  obtain⟨rfl,rfl⟩:=trodVars_none hV;have k0:=h0;have lt0:∀x∈p0,x.block<W.heap.size:=by obtain⟨m,hm⟩:=k0;exact DataW.trod_lt m _ _ _ hm
  obtain⟨c00,c01,c02,y00,y01,y02,n0,rfl,_,_,g00,g01,g02⟩:=Joins.open_agg3 Tryz.underlying23 (by kernel_rfl) (by kernel_rfl) (hval 0 23 v0 rfl rfl) h0;obtain⟨a00,e00⟩:=b0m Tryz.underlying3 g00;obtain⟨a01,e01⟩:=b0m Tryz.underlying3 g01;obtain⟨a02,e02⟩:=b0m Tryz.underlying3 g02;simp only[Y5,and_true]at e00 e01 e02;subst e00 e01 e02;obtain⟨a1,rfl,rfl,rfl,w1⟩:=open_int Tryz.underlying3 (hval 1 3 v1 rfl rfl) h1;obtain⟨a2,rfl,rfl,rfl,w2⟩:=open_int Tryz.underlying3 (hval 2 3 v2 rfl rfl) h2;clear hA0 hval0;refine(Fn.whole (b6c a00 a01 a02 a1 a2 (frz W))).mono λe W' ⟨he,bel⟩=>?_;subst he;exact⟨_,rfl,_,_,_,[],_,[],hW',trodAll_mk1 (shut_bool Tryz.underlying4 _),(trodAll_cons_mk (Below.trod b7i (by kernel_rfl) (a6C (by kernel_rfl)) k0 bel lt0) (trodAll_cons_mk (shut_int Tryz.underlying3 w1) (trodAll_cons_mk (shut_int Tryz.underlying3 w2) trodAll_mk0))),rfl,bel.frame _,λh=>by cases h⟩
theorem k0:(Rows.topCutRow.wf (OpenSpec.ofChange Rows.topCutSpec))=true:=by kernel_rfl
theorem k3:(Tryz.f5.params.all (Tryz.prog.readableRec ·))=true:=by kernel_rfl
theorem k4:(namedTie Tryz.prog Rows.topCutRow.named Rows.topCutSpec.vars)=true:=by kernel_rfl
theorem k5:(Rows.topCutRow.stops==[])=true:=by kernel_rfl
theorem k7:(Rows.topCutRow.knobs==[])=true:=by kernel_rfl
theorem k9:(Rows.topCutRow.inPlace==Tryz.prog.inPlace 5)=true:=by kernel_rfl
theorem k10:(Rows.topCutRow.unfollowed==Tryz.prog.unfollowed 5)=true:=by kernel_rfl
theorem k11:(Rows.topCutRow.recurses==Tryz.prog.recurses 5)=true:=by kernel_rfl
theorem k12:(Rows.topCutRow.named==Tryz.prog.varsNamed 5)=true:=by kernel_rfl
theorem k13:(Rows.topCutRow.maps==(Tryz.f5.params.toList++Rows.topCutSpec.plain.varTypes Tryz.prog).any (Tryz.prog.mapsRec ·))=true:=by kernel_rfl
theorem k14:(Rows.topCutRow.ifaces==(Tryz.f5.params.toList++Rows.topCutSpec.plain.varTypes Tryz.prog).any (Tryz.prog.ifacesRec ·))=true:=by kernel_rfl
theorem k15:(Rows.topCutRow.mapsOut==Tryz.prog.mapsAmong Tryz.f5.resultTypes.toList)=true:=by kernel_rfl
theorem k16:(Rows.topCutRow.loops==(Tryz.f5.params.toList++Rows.topCutSpec.plain.varTypes Tryz.prog).any (Tryz.prog.loopsFrom ·))=true:=by kernel_rfl
theorem k17:(Rows.topCutRow.wideKeys==(Tryz.f5.params.toList++Rows.topCutSpec.plain.varTypes Tryz.prog++Tryz.f5.resultTypes.toList).any (Tryz.prog.wideKeysFrom ·))=true:=by kernel_rfl
theorem k18:(Rows.topCutSpec.vars.all (Tryz.prog.varReadable ·))=true:=by kernel_rfl
theorem k19:(Tryz.f5.resultTypes.all (λt=>Tryz.prog.readableRec t&&decide (t<Tryz.prog.types.size)))=true:=by kernel_rfl
theorem k20:(Rows.topCutRow.ifacesOut==Tryz.f5.resultTypes.toList.any (Tryz.prog.ifacesRec ·))=true:=by kernel_rfl
theorem k21:(Rows.topCutRow.loopsOut==Tryz.f5.resultTypes.toList.any (Tryz.prog.loopsFrom ·))=true:=by kernel_rfl
theorem k22:(Rows.topCutRow.plainKeys==Tryz.prog.plainKeys)=true:=by kernel_rfl
theorem k23:(Rows.topCutRow.shortTexts.isNone)=true:=by kernel_rfl
theorem k26:(Rows.topCutRow.lifted==Tryz.prog.liftsFinal)=true:=by kernel_rfl
theorem k27:(Tryz.prog.make==some Rows.topCutRow.make)=true:=by kernel_rfl
theorem k28a:(Rows.topCutRow.domain.isEmpty)=true:=by kernel_rfl
theorem k28:(Rows.topCutRow.kinds==[])=true:=by kernel_rfl
theorem k29:(Rows.topCutRow.pinned==Rows.topCutRow.pinnedBy)=true:=by kernel_rfl
theorem k30:(Rows.topCutRow.veiled==(Tryz.f5.params.toList++Rows.topCutSpec.plain.varTypes Tryz.prog++Tryz.f5.resultTypes.toList).any (Tryz.prog.veiledRec ·))=true:=by kernel_rfl
theorem k31:(Rows.topCutRow.veiledFits Tryz.prog Tryz.f5.params.toList (Tryz.f5.params.toList++Rows.topCutSpec.plain.varTypes Tryz.prog++Tryz.f5.resultTypes.toList))=true:=by kernel_rfl
theorem closed:joinedFacts Tryz.prog 5 Tryz.f5 Rows.topCutSpec Rows.topCutRow=true:=b4K k0 b7i b9m k3 k4 k5 b9l k7 b9n k9 k10 k11 k12 k13 k14 k15 k16 k17 k18 k19 k20 k21 k22 k23 b9o b9p k26 k27 k28a k28 k29 k30 k31
theorem over:Rows.topCutRow.holds Tryz.pinned (OpenSpec.ofChange Rows.topCutSpec):=
  OpenClaim.holds_of_wide 5 Tryz.f5 rfl rfl rfl rfl rfl rfl rfl ⟨rfl,rfl,rfl,rfl,rfl⟩ rfl rfl rfl rfl rfl (by kernel_rfl) Tryz.func5 closed
    (a6C (by kernel_rfl)) (by unfold Func.isWrapper;first | (rw[d7 (by decide+kernel)];kernel_rfl) | (rw[d4 (by decide+kernel)];exact⟨rfl,rfl⟩))
    (λos started H enc _=>lifted os started H enc)
/-- THE STATEMENT -/
theorem proved:Rows.TopCutSaid:=over
#print axioms proved
end Go.Proofs.YtmafiplddapokaaGreat.topCutClaim
