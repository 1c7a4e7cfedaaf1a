/- Shows that power may go at any operation of a mount, and of the one behind it, again and again: the next whole mount has all, as the sentence ostrakontop.TopMountCut says. No condition. -/
import Derived.Test.YtmafiplddapokaaGreatU39
import Derived.Test.YtmafiplddapokaaGreatU20
import Derived.WalkKit
set_option maxRecDepth 20000
set_option linter.all false
/- Shows that power may go at any operation of a G9, and of the one behind it, again and again: the next whole G9 has all, as the sentence ostrakontop.TopMountCut says. No condition. -/
namespace Go.Proofs.YtmafiplddapokaaGreat.topMountCutClaim
open Go Go.RowKit
open Go.ChangeShapes Go.WideShapes Go.ChangeAt
theorem own:ownKnob Tryz.prog.godebug=none:=by kernel_rfl
set_option maxRecDepth 100000 in
theorem lifted (os : Os) (started : os.Started) (H : Type) (enc : TypeId × Value → H) :
    ReturnsInHanded {} Tryz.checked os 6 .any (Rows.topMountCutSpec.pre6 enc Tryz.prog Tryz.f6 Rows.topMountCutRow.domain false) (Rows.topMountCutSpec.post enc Tryz.prog Tryz.f6 false true false false):=by
  refine returnsInHanded_of_change (C:=Tryz.checked) own started (by kernel_rfl) Tryz.func6
    (ChangeSpec.witness6 (enc:=enc) (C:=Tryz.checked) false ⟨#[],#[.agg #[.int .i64 0, .int .i64 0, .int .i64 0], .int .i64 0, .int .i64 0, .slice none 0 0],[]⟩ 8 (by kernel_rfl) (by kernel_rfl) (by kernel_rfl) (by kernel_rfl)) ?_
  intro W base args ds gs before hval0 hW hcnd _;have hval:∀(j:Nat) t v,Tryz.f6.params[j]? =some t->args[j]? =some v->Value.okWide Tryz.prog W .any base t v:=hval0;have hW':=hW;obtain⟨p,q,hA0,hV,rfl,hfz,hnd⟩:=hW;have hA:DataW.TrodAll enc Tryz.prog W 0 (λ_=>true) true Tryz.f6.params.toList args.toList ds p:=hA0;rw[Tryz.params6]at hA hval;obtain⟨v0,vs0,d0,ds0,p0,q0,hargs,rfl,rfl,h0,r0⟩:=trodAll_cons hA;obtain⟨v1,vs1,d1,ds1,p1,q1,rfl,rfl,rfl,h1,r1⟩:=trodAll_cons r0;obtain⟨v2,vs2,d2,ds2,p2,q2,rfl,rfl,rfl,h2,r2⟩:=trodAll_cons r1;obtain⟨v3,vs3,d3,ds3,p3,q3,rfl,rfl,rfl,h3,r3⟩:=trodAll_cons r2;obtain⟨rfl,rfl,rfl⟩:=trodAll_nil r3;obtain rfl:args= #[v0,v1,v2,v3]:=by cases args;simp_all
  obtain⟨rfl,rfl⟩:=trodVars_none hV;have k0:=h0;have lt0:∀x∈p0,x.block<W.heap.size:=by obtain⟨m,hm⟩:=k0;exact DataW.trod_lt m _ _ _ hm
  obtain⟨c00,c01,c02,y00,y01,y02,n0,rfl,_,_,g00,g01,g02⟩:=Joins.open_agg3 Tryz.underlying23 (by kernel_rfl) (by kernel_rfl) (hval 0 23 v0 rfl rfl) h0;obtain⟨a00,e00⟩:=b0A Tryz.underlying3 g00;obtain⟨a01,e01⟩:=b0A Tryz.underlying3 g01;obtain⟨a02,e02⟩:=b0A Tryz.underlying3 g02;simp only[Z6,and_true]at e00 e01 e02;subst e00 e01 e02;obtain⟨a1,rfl,rfl,rfl,w1⟩:=open_int Tryz.underlying3 (hval 1 3 v1 rfl rfl) h1;obtain⟨a2,rfl,rfl,rfl,w2⟩:=open_int Tryz.underlying3 (hval 2 3 v2 rfl rfl) h2;have k3:=h3;have lt3:∀x∈p3,x.block<W.heap.size:=by obtain⟨m,hm⟩:=k3;exact DataW.trod_lt m _ _ _ hm
  obtain⟨ad3,len3,cap3,rfl⟩:=okWide_slice Tryz.underlying24 (hval 3 24 v3 rfl rfl);obtain⟨f3,hf3⟩:=h3;obtain⟨l3,hl3,hd3,hr3⟩:=b4J hf3;clear hA0 hval0;refine(Fn.whole (a8N a00 a01 a02 a1 a2 (frz W) ad3 len3 cap3 l3 (c1j hr3) hl3 hd3)).mono λe W' ⟨he,bel⟩=>?_;subst he;exact⟨_,rfl,_,_,_,[],_,[],hW',trodAll_mk1 (shut_bool Tryz.underlying4 _),(trodAll_cons_mk (Below.trod b2W (by kernel_rfl) (a2M (by kernel_rfl)) k0 bel lt0) (trodAll_cons_mk (shut_int Tryz.underlying3 w1) (trodAll_cons_mk (shut_int Tryz.underlying3 w2) (trodAll_cons_mk (Below.trod b2W (by kernel_rfl) (a2M (by kernel_rfl)) k3 bel lt3) trodAll_mk0)))),rfl,bel.frame _,λh=>by cases h⟩
theorem closed:joinedFacts Tryz.prog 6 Tryz.f6 Rows.topMountCutSpec Rows.topMountCutRow=true:=b5c k0 b2W b9C k3 k4 k5 b9B k7 b9D k9 k10 k11 k12 k13 k14 k15 k16 k17 k18 k19 k20 k21 k22 k23 b9E b9F k26 k27 k28a k28 k29 k30 k31
theorem over:Rows.topMountCutRow.holds Tryz.pinned (OpenSpec.ofChange Rows.topMountCutSpec):=
  OpenClaim.holds_of_wide 6 Tryz.f6 rfl rfl rfl rfl rfl rfl rfl ⟨rfl,rfl,rfl,rfl,rfl⟩ rfl rfl rfl rfl rfl (by kernel_rfl) Tryz.func6 closed
    (a2M (by kernel_rfl)) (by unfold Func.isWrapper;first | (rw[d8 (by decide+kernel)];kernel_rfl) | (rw[d6 (by decide+kernel)];exact⟨rfl,rfl⟩))
    (λos started H enc _=>lifted os started H enc)
/-- THE STATEMENT -/
theorem proved:Rows.TopMountCutSaid:=over
#print axioms proved
end Go.Proofs.YtmafiplddapokaaGreat.topMountCutClaim
