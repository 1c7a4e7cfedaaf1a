/- Shows that a device that rests is whole and each of its pages is read, whatever the script ahead of it, power cuts among its steps, as the sentence ostrakonlaw21.CalmAll says. No condition. -/
import Derived.Test.YtmafiplddapokaaGreatT20
import Derived.WalkKit
set_option maxRecDepth 20000
set_option linter.all false
/- Shows that a device that rests is whole and each of its pages is read, whatever the script ahead of it, power cuts among its steps, as the sentence ostrakonlaw21.CalmAll says. No condition. -/
namespace Go.Proofs.YtmafiplddapokaaGreat.calmAllClaim
open Go Go.RowKit
open Go.ChangeShapes Go.WideShapes Go.ChangeAt
theorem own:ownKnob Tryz.prog.godebug=none:=by kernel_rfl
set_option maxRecDepth 100000 in
theorem lifted (os : Os) (started : os.Started) (H : Type) (enc : TypeId × Value → H) :
    ReturnsInHanded {} Tryz.checked os 4 .any (Rows.calmAllSpec.pre6 enc Tryz.prog Tryz.f4 Rows.calmAllRow.domain false) (Rows.calmAllSpec.post enc Tryz.prog Tryz.f4 false true false false):=by
  refine returnsInHanded_of_change (C:=Tryz.checked) own started (by kernel_rfl) Tryz.func4
    (ChangeSpec.witness6 (enc:=enc) (C:=Tryz.checked) false ⟨#[],#[.agg #[.int .i64 0, .int .i64 0, .int .i64 0], .slice none 0 0, .int .i64 0],[]⟩ 8 (by kernel_rfl) (by kernel_rfl) (by kernel_rfl) (by kernel_rfl)) ?_
  intro W base args ds gs before hval0 hW hcnd _;have hval:∀(j:Nat) t v,Tryz.f4.params[j]? =some t->args[j]? =some v->Value.okWide Tryz.prog W .any base t v:=hval0;have hW':=hW;obtain⟨p,q,hA0,hV,rfl,hfz,hnd⟩:=hW;have hA:DataW.TrodAll enc Tryz.prog W 0 (λ_=>true) true Tryz.f4.params.toList args.toList ds p:=hA0;rw[Tryz.params4]at hA hval;obtain⟨v0,vs0,d0,ds0,p0,q0,hargs,rfl,rfl,h0,r0⟩:=trodAll_cons hA;obtain⟨v1,vs1,d1,ds1,p1,q1,rfl,rfl,rfl,h1,r1⟩:=trodAll_cons r0;obtain⟨v2,vs2,d2,ds2,p2,q2,rfl,rfl,rfl,h2,r2⟩:=trodAll_cons r1;obtain⟨rfl,rfl,rfl⟩:=trodAll_nil r2;obtain rfl:args= #[v0,v1,v2]:=by cases args;simp_all
  obtain⟨rfl,rfl⟩:=trodVars_none hV;have k0:=h0;have lt0:∀x∈p0,x.block<W.heap.size:=by obtain⟨m,hm⟩:=k0;exact DataW.trod_lt m _ _ _ hm
  obtain⟨c00,c01,c02,y00,y01,y02,n0,rfl,_,_,g00,g01,g02⟩:=Joins.open_agg3 Tryz.underlying23 (by kernel_rfl) (by kernel_rfl) (hval 0 23 v0 rfl rfl) h0;obtain⟨a00,e00⟩:=a0p Tryz.underlying3 g00;obtain⟨a01,e01⟩:=a0p Tryz.underlying3 g01;obtain⟨a02,e02⟩:=a0p Tryz.underlying3 g02;simp only[U9,and_true]at e00 e01 e02;subst e00 e01 e02;have k1:=h1;have lt1:∀x∈p1,x.block<W.heap.size:=by obtain⟨m,hm⟩:=k1;exact DataW.trod_lt m _ _ _ hm
  obtain⟨ad1,len1,cap1,rfl⟩:=okWide_slice Tryz.underlying49 (hval 1 49 v1 rfl rfl);obtain⟨f1,hf1⟩:=h1;obtain⟨l1,hl1,hd1,hr1⟩:=b5z hf1;obtain⟨a2,rfl,rfl,rfl,w2⟩:=open_int Tryz.underlying3 (hval 2 3 v2 rfl rfl) h2;clear hA0 hval0;refine(Fn.whole (b5p a00 a01 a02 (frz W) ad1 len1 cap1 l1 (c2c hr1) hl1 hd1 a2)).mono λe W' ⟨he,bel⟩=>?_;subst he;exact⟨_,rfl,_,_,_,[],_,[],hW',trodAll_mk1 (shut_bool Tryz.underlying4 _),(trodAll_cons_mk (Below.trod b3H (by kernel_rfl) (a3g (by kernel_rfl)) k0 bel lt0) (trodAll_cons_mk (Below.trod b3H (by kernel_rfl) (a3g (by kernel_rfl)) k1 bel lt1) (trodAll_cons_mk (shut_int Tryz.underlying3 w2) trodAll_mk0))),rfl,bel.frame _,λh=>by cases h⟩
theorem k0:(Rows.calmAllRow.wf (OpenSpec.ofChange Rows.calmAllSpec))=true:=by kernel_rfl
theorem k3:(Tryz.f4.params.all (Tryz.prog.readableRec ·))=true:=by kernel_rfl
theorem k4:(namedTie Tryz.prog Rows.calmAllRow.named Rows.calmAllSpec.vars)=true:=by kernel_rfl
theorem k5:(Rows.calmAllRow.stops==[])=true:=by kernel_rfl
theorem k7:(Rows.calmAllRow.knobs==[])=true:=by kernel_rfl
theorem k9:(Rows.calmAllRow.inPlace==Tryz.prog.inPlace 4)=true:=by kernel_rfl
theorem k10:(Rows.calmAllRow.unfollowed==Tryz.prog.unfollowed 4)=true:=by kernel_rfl
theorem k11:(Rows.calmAllRow.recurses==Tryz.prog.recurses 4)=true:=by kernel_rfl
theorem k12:(Rows.calmAllRow.named==Tryz.prog.varsNamed 4)=true:=by kernel_rfl
theorem k13:(Rows.calmAllRow.maps==(Tryz.f4.params.toList++Rows.calmAllSpec.plain.varTypes Tryz.prog).any (Tryz.prog.mapsRec ·))=true:=by kernel_rfl
theorem k14:(Rows.calmAllRow.ifaces==(Tryz.f4.params.toList++Rows.calmAllSpec.plain.varTypes Tryz.prog).any (Tryz.prog.ifacesRec ·))=true:=by kernel_rfl
theorem k15:(Rows.calmAllRow.mapsOut==Tryz.prog.mapsAmong Tryz.f4.resultTypes.toList)=true:=by kernel_rfl
theorem k16:(Rows.calmAllRow.loops==(Tryz.f4.params.toList++Rows.calmAllSpec.plain.varTypes Tryz.prog).any (Tryz.prog.loopsFrom ·))=true:=by kernel_rfl
theorem k17:(Rows.calmAllRow.wideKeys==(Tryz.f4.params.toList++Rows.calmAllSpec.plain.varTypes Tryz.prog++Tryz.f4.resultTypes.toList).any (Tryz.prog.wideKeysFrom ·))=true:=by kernel_rfl
theorem k18:(Rows.calmAllSpec.vars.all (Tryz.prog.varReadable ·))=true:=by kernel_rfl
theorem k19:(Tryz.f4.resultTypes.all (λt=>Tryz.prog.readableRec t&&decide (t<Tryz.prog.types.size)))=true:=by kernel_rfl
theorem k20:(Rows.calmAllRow.ifacesOut==Tryz.f4.resultTypes.toList.any (Tryz.prog.ifacesRec ·))=true:=by kernel_rfl
theorem k21:(Rows.calmAllRow.loopsOut==Tryz.f4.resultTypes.toList.any (Tryz.prog.loopsFrom ·))=true:=by kernel_rfl
theorem k22:(Rows.calmAllRow.plainKeys==Tryz.prog.plainKeys)=true:=by kernel_rfl
theorem k23:(Rows.calmAllRow.shortTexts.isNone)=true:=by kernel_rfl
theorem k26:(Rows.calmAllRow.lifted==Tryz.prog.liftsFinal)=true:=by kernel_rfl
theorem k27:(Tryz.prog.make==some Rows.calmAllRow.make)=true:=by kernel_rfl
theorem k28a:(Rows.calmAllRow.domain.isEmpty)=true:=by kernel_rfl
theorem k28:(Rows.calmAllRow.kinds==[])=true:=by kernel_rfl
theorem k29:(Rows.calmAllRow.pinned==Rows.calmAllRow.pinnedBy)=true:=by kernel_rfl
theorem k30:(Rows.calmAllRow.veiled==(Tryz.f4.params.toList++Rows.calmAllSpec.plain.varTypes Tryz.prog++Tryz.f4.resultTypes.toList).any (Tryz.prog.veiledRec ·))=true:=by kernel_rfl
theorem k31:(Rows.calmAllRow.veiledFits Tryz.prog Tryz.f4.params.toList (Tryz.f4.params.toList++Rows.calmAllSpec.plain.varTypes Tryz.prog++Tryz.f4.resultTypes.toList))=true:=by kernel_rfl
theorem closed:joinedFacts Tryz.prog 4 Tryz.f4 Rows.calmAllSpec Rows.calmAllRow=true:=b5S k0 b3H c0t k3 k4 k5 c0s k7 c0u k9 k10 k11 k12 k13 k14 k15 k16 k17 k18 k19 k20 k21 k22 k23 c0v c0w k26 k27 k28a k28 k29 k30 k31
theorem over:Rows.calmAllRow.holds Tryz.pinned (OpenSpec.ofChange Rows.calmAllSpec):=
  OpenClaim.holds_of_wide 4 Tryz.f4 rfl rfl rfl rfl rfl rfl rfl ⟨rfl,rfl,rfl,rfl,rfl⟩ rfl rfl rfl rfl rfl (by kernel_rfl) Tryz.func4 closed
    (a3g (by kernel_rfl)) (by unfold Func.isWrapper;first | (rw[d7 (by decide+kernel)];kernel_rfl) | (rw[d4 (by decide+kernel)];exact⟨rfl,rfl⟩))
    (λos started H enc _=>lifted os started H enc)
/-- THE STATEMENT -/
theorem proved:Rows.CalmAllSaid:=over
#print axioms proved
end Go.Proofs.YtmafiplddapokaaGreat.calmAllClaim
