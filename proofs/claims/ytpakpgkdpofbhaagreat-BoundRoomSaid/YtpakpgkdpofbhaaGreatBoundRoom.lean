/- Shows that the bounds have room, as the sentence ostrakonlaw21.BoundRoom says. No condition. -/
import Derived.Test.YtpakpgkdpofbhaaGreatC00
import Derived.Test.YtpakpgkdpofbhaaGreatC12
import Derived.Test.YtpakpgkdpofbhaaGreatC21
import Derived.WalkKit
set_option maxRecDepth 20000
set_option linter.all false
/- Shows that the bounds have room, as the sentence ostrakonlaw21.BoundRoom says. No condition. -/
namespace Go.Proofs.YtpakpgkdpofbhaaGreat.boundRoomClaim
open Go Go.RowKit
open Go.ChangeShapes Go.WideShapes Go.ChangeAt
theorem own:ownKnob Tryz.prog.godebug=none:=by kernel_rfl
set_option maxRecDepth 100000 in
theorem lifted (os : Os) (started : os.Started) (H : Type) (enc : TypeId × Value → H) :
    ReturnsInHanded {} Tryz.checked os 4 .any (Rows.boundRoomSpec.pre6 enc Tryz.prog Tryz.f4 Rows.boundRoomRow.domain false) (Rows.boundRoomSpec.post enc Tryz.prog Tryz.f4 false true false false):=by
  refine returnsInHanded_of_change (C:=Tryz.checked) own started (by kernel_rfl) Tryz.func4
    (ChangeSpec.witness6 (enc:=enc) (C:=Tryz.checked) false ⟨#[],#[.int .i64 0, .int .i64 0, .int .i64 0],[]⟩ 8 (by kernel_rfl) (by kernel_rfl) (by kernel_rfl) (by kernel_rfl)) ?_
  intro W base args ds gs before hval0 hW hcnd _;have hval:∀(j:Nat) t v,Tryz.f4.params[j]? =some t->args[j]? =some v->Value.okWide Tryz.prog W .any base t v:=hval0;have hW':=hW;obtain⟨p,q,hA0,hV,rfl,hfz,hnd⟩:=hW;have hA:DataW.TrodAll enc Tryz.prog W 0 (λ_=>true) true Tryz.f4.params.toList args.toList ds p:=hA0;rw[Tryz.params4]at hA hval;obtain⟨v0,vs0,d0,ds0,p0,q0,hargs,rfl,rfl,h0,r0⟩:=trodAll_cons hA;obtain⟨v1,vs1,d1,ds1,p1,q1,rfl,rfl,rfl,h1,r1⟩:=trodAll_cons r0;obtain⟨v2,vs2,d2,ds2,p2,q2,rfl,rfl,rfl,h2,r2⟩:=trodAll_cons r1;obtain⟨rfl,rfl,rfl⟩:=trodAll_nil r2;obtain rfl:args= #[v0,v1,v2]:=by cases args;simp_all
  obtain⟨rfl,rfl⟩:=trodVars_none hV;obtain⟨a0,rfl,rfl,rfl,w0⟩:=open_int Tryz.underlying3 (hval 0 3 v0 rfl rfl) h0;obtain⟨a1,rfl,rfl,rfl,w1⟩:=open_int Tryz.underlying3 (hval 1 3 v1 rfl rfl) h1;obtain⟨a2,rfl,rfl,rfl,w2⟩:=open_int Tryz.underlying3 (hval 2 3 v2 rfl rfl) h2;clear hA0 hval0;refine(Fn.whole (b1q a0 a1 a2 (frz W))).mono λe W' ⟨he,bel⟩=>?_;subst he;exact⟨_,rfl,_,_,_,[],_,[],hW',trodAll_mk1 (shut_bool Tryz.underlying4 _),(trodAll_cons_mk (shut_int Tryz.underlying3 w0) (trodAll_cons_mk (shut_int Tryz.underlying3 w1) (trodAll_cons_mk (shut_int Tryz.underlying3 w2) trodAll_mk0))),rfl,bel.frame _,λh=>by cases h⟩
theorem k0:(Rows.boundRoomRow.wf (OpenSpec.ofChange Rows.boundRoomSpec))=true:=by kernel_rfl
theorem k3:(Tryz.f4.params.all (Tryz.prog.readableRec ·))=true:=by kernel_rfl
theorem k4:(namedTie Tryz.prog Rows.boundRoomRow.named Rows.boundRoomSpec.vars)=true:=by kernel_rfl
theorem k5:(Rows.boundRoomRow.stops==[])=true:=by kernel_rfl
theorem k7:(Rows.boundRoomRow.knobs==[])=true:=by kernel_rfl
theorem k9:(Rows.boundRoomRow.inPlace==Tryz.prog.inPlace 4)=true:=by kernel_rfl
theorem k10:(Rows.boundRoomRow.unfollowed==Tryz.prog.unfollowed 4)=true:=by kernel_rfl
theorem k11:(Rows.boundRoomRow.recurses==Tryz.prog.recurses 4)=true:=by kernel_rfl
theorem k12:(Rows.boundRoomRow.named==Tryz.prog.varsNamed 4)=true:=by kernel_rfl
theorem k13:(Rows.boundRoomRow.maps==(Tryz.f4.params.toList++Rows.boundRoomSpec.plain.varTypes Tryz.prog).any (Tryz.prog.mapsRec ·))=true:=by kernel_rfl
theorem k14:(Rows.boundRoomRow.ifaces==(Tryz.f4.params.toList++Rows.boundRoomSpec.plain.varTypes Tryz.prog).any (Tryz.prog.ifacesRec ·))=true:=by kernel_rfl
theorem k15:(Rows.boundRoomRow.mapsOut==Tryz.prog.mapsAmong Tryz.f4.resultTypes.toList)=true:=by kernel_rfl
theorem k16:(Rows.boundRoomRow.loops==(Tryz.f4.params.toList++Rows.boundRoomSpec.plain.varTypes Tryz.prog).any (Tryz.prog.loopsFrom ·))=true:=by kernel_rfl
theorem k17:(Rows.boundRoomRow.wideKeys==(Tryz.f4.params.toList++Rows.boundRoomSpec.plain.varTypes Tryz.prog++Tryz.f4.resultTypes.toList).any (Tryz.prog.wideKeysFrom ·))=true:=by kernel_rfl
theorem k18:(Rows.boundRoomSpec.vars.all (Tryz.prog.varReadable ·))=true:=by kernel_rfl
theorem k19:(Tryz.f4.resultTypes.all (λt=>Tryz.prog.readableRec t&&decide (t<Tryz.prog.types.size)))=true:=by kernel_rfl
theorem k20:(Rows.boundRoomRow.ifacesOut==Tryz.f4.resultTypes.toList.any (Tryz.prog.ifacesRec ·))=true:=by kernel_rfl
theorem k21:(Rows.boundRoomRow.loopsOut==Tryz.f4.resultTypes.toList.any (Tryz.prog.loopsFrom ·))=true:=by kernel_rfl
theorem k22:(Rows.boundRoomRow.plainKeys==Tryz.prog.plainKeys)=true:=by kernel_rfl
theorem k23:(Rows.boundRoomRow.shortTexts.isNone)=true:=by kernel_rfl
theorem k26:(Rows.boundRoomRow.lifted==Tryz.prog.liftsFinal)=true:=by kernel_rfl
theorem k27:(Tryz.prog.make==some Rows.boundRoomRow.make)=true:=by kernel_rfl
theorem k28a:(Rows.boundRoomRow.domain.isEmpty)=true:=by kernel_rfl
theorem k28:(Rows.boundRoomRow.kinds==[])=true:=by kernel_rfl
theorem k29:(Rows.boundRoomRow.pinned==Rows.boundRoomRow.pinnedBy)=true:=by kernel_rfl
theorem k30:(Rows.boundRoomRow.veiled==(Tryz.f4.params.toList++Rows.boundRoomSpec.plain.varTypes Tryz.prog++Tryz.f4.resultTypes.toList).any (Tryz.prog.veiledRec ·))=true:=by kernel_rfl
theorem k31:(Rows.boundRoomRow.veiledFits Tryz.prog Tryz.f4.params.toList (Tryz.f4.params.toList++Rows.boundRoomSpec.plain.varTypes Tryz.prog++Tryz.f4.resultTypes.toList))=true:=by kernel_rfl
theorem closed:joinedFacts Tryz.prog 4 Tryz.f4 Rows.boundRoomSpec Rows.boundRoomRow=true:=a1C k0 X1 a4h k3 k4 k5 a4g k7 a4i k9 k10 k11 k12 k13 k14 k15 k16 k17 k18 k19 k20 k21 k22 k23 a4j a4k k26 k27 k28a k28 k29 k30 k31
theorem over:Rows.boundRoomRow.holds Tryz.pinned (OpenSpec.ofChange Rows.boundRoomSpec):=
  OpenClaim.holds_of_wide 4 Tryz.f4 rfl rfl rfl rfl rfl rfl rfl ⟨rfl,rfl,rfl,rfl,rfl⟩ rfl rfl rfl rfl rfl (by kernel_rfl) Tryz.func4 closed
    (A7 (by kernel_rfl)) (by unfold Func.isWrapper;first | (rw[d8 (by decide+kernel)];kernel_rfl) | (rw[d7 (by decide+kernel)];exact⟨rfl,rfl⟩))
    (λos started H enc _=>lifted os started H enc)
/-- THE STATEMENT -/
theorem proved:Rows.BoundRoomSaid:=over
#print axioms proved
end Go.Proofs.YtpakpgkdpofbhaaGreat.boundRoomClaim
