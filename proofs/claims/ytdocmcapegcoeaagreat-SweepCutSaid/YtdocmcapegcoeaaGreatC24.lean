/- Helpers, proved here. No condition. -/
import Derived.Test.YtdocmcapegcoeaaGreatC02
import Derived.Test.YtdocmcapegcoeaaGreatC06
import Derived.Test.YtdocmcapegcoeaaGreatC11
import Derived.Test.YtdocmcapegcoeaaGreatC12
import Derived.Test.YtdocmcapegcoeaaGreatC14
import Derived.Test.YtdocmcapegcoeaaGreatC15
import Derived.Test.YtdocmcapegcoeaaGreatC16
import Derived.Test.YtdocmcapegcoeaaGreatC20
import Derived.Test.YtdocmcapegcoeaaGreatC21
import Derived.Test.YtdocmcapegcoeaaGreatC23
import Derived.Test.YtdocmcapegcoeaaGreatRows
import Derived.ProofKit
import Derived.OpenShut
import Derived.ChangeOld
import Derived.Below
import Derived.Deep.Slices
import Derived.Deep.Strs
import Derived.Lib.SmallJoins
set_option maxRecDepth 20000
set_option linter.all false
namespace Go.Proofs.YtdocmcapegcoeaaGreat
open Go Go.RowKit
theorem dI_count (m:Int):(dI m).length=L.count m:=by
 rw[<- L.below_eight m,dI,dsk,List.length_map,L.below];refine congrArg List.length (List.filter_congr λd hd=>?_);rw[List.mem_range]at hd;simp[hd]
theorem leavesD:leaves Tryz.prog 100 36=some lvD:=by kernel_rfl
theorem mkD (zs:List Value):mkV Tryz.prog 36 zs= .agg zs.toArray:=by simp[mkV,Tryz.underlying36]
theorem gdD:Tryz.prog.eqGuardType Tryz.prog.depth 36=false:=by kernel_rfl
def f9out (s:Sh):Bool:=((((((((((s.kind !=1)&&(s.kind !=2))||decide (s.block<0))||decide (s.block>=16))||decide (s.row<0))||decide (s.row>=8))||decide ((L.count s.mask:Int)<2))||decide (s.seq<0))||decide (s.seq>1099511627775))||decide (s.lpn<0))||decide (s.lpn>65535)
theorem may_out (s:Sh) (h:f9out s=true):S.may s=false:=by
 rw[Bool.eq_false_iff];intro hm;simp only[S.may,S.place,S.numbers,S.inB,Bool.and_eq_true,Bool.or_eq_true,decide_eq_true_eq]at hm;simp only[f9out,Bool.and_eq_true,Bool.or_eq_true,decide_eq_true_eq,bne_iff_ne,ne_eq]at h;omega
theorem may_par (s:Sh) (h:f9out s=false) (hk:s.kind=2):S.may s=(decide (s.role>=0)&&decide (s.role<=255)):=by
 simp only[f9out,Bool.and_eq_false_iff,Bool.or_eq_false_iff,decide_eq_false_iff_not,bne_eq_false_iff_eq]at h;simp only[S.may,S.place,S.numbers,S.inB];rw[decide_eq_true (show 0<=s.block by omega),decide_eq_true (show s.block<=15 by omega),decide_eq_true (show 0<=s.row by omega),decide_eq_true (show s.row<=7 by omega),decide_eq_true (show 2<=L.count s.mask by omega),decide_eq_true (show 0<=s.seq by omega),decide_eq_true (show s.seq<=1099511627775 by omega),decide_eq_true (show 0<=s.lpn by omega),decide_eq_true (show s.lpn<=65535 by omega),decide_eq_true hk];simp
theorem may_own (s:Sh) (h:f9out s=false) (hk:s.kind≠2):S.may s=S.entry s:=by
 simp only[f9out,Bool.and_eq_false_iff,Bool.or_eq_false_iff,decide_eq_false_iff_not,bne_eq_false_iff_eq]at h;have h1:s.kind=1:=by omega
 have hr:S.entry s=true->0<=s.role/\s.role<=255:=by
  intro he;unfold S.entry at he;split at he
  ·omega
  ·split at he
   ·omega
   ·split at he
    ·omega
    ·cases he
 simp only[S.may,S.place,S.numbers,S.inB];rw[decide_eq_true (show 0<=s.block by omega),decide_eq_true (show s.block<=15 by omega),decide_eq_true (show 0<=s.row by omega),decide_eq_true (show s.row<=7 by omega),decide_eq_true (show 2<=L.count s.mask by omega),decide_eq_true (show 0<=s.seq by omega),decide_eq_true (show s.seq<=1099511627775 by omega),decide_eq_true (show 0<=s.lpn by omega),decide_eq_true (show s.lpn<=65535 by omega),decide_eq_true h1,decide_eq_false hk];cases he:S.entry s
 ·simp
 ·have:=hr he;rw[decide_eq_true this.1,decide_eq_true this.2];rfl
theorem f9_May (s:Sh) (h:s.data.length=16):Fn Tryz.prog 166 [shV s] [] (λv As=>v= .bool (S.may s)/\As=[]):=by
 refine Fn.enter [0] Tryz.func166 rfl rfl rfl λX F hX=>?_;refine J.run hX tk 400 (λb1=>rfl) (λb1=>?_) (λb1=>?_)
 ·(repeat' (first | exact Conj.nil | refine Conj.cons ?_ ?_ | exact rfl | exact hq | (rw[hq];rfl) | (rw[(Bool.not_eq_true' _).mp hq]) | intro hq | omega | (simp;done)))
 refine J.gcase hX rfl rfl rfl trivial (λhb=>?_) (λhb=>?_)
 ·have hb2:=(Bool.not_eq_true' _).mp hb;rw[hb2];refine J.q hX λ_=>?_;refine J.cb hX (f1_Dies s.mask) [] ?_;rintro v As ⟨a,c,rfl,rfl⟩;refine⟨_,rfl,trivial,?_⟩;rw[dI_count];refine J.run hX tk 400 (λb3=>rfl) (λb3=>?_) (λb3=>?_)
  ·(repeat' (first | exact Conj.nil | refine Conj.cons ?_ ?_ | exact rfl | exact hq | (rw[hq];rfl) | (rw[(Bool.not_eq_true' _).mp hq]) | intro hq | omega | (simp;done)))
  refine J.q hX λ_=>?_;refine J.cond rfl (λh3=>?_) (λh3=>?_)
  ·have ho:f9out s=true:=by unfold f9out;rw[hb2];exact h3
   refine J.q hX λ_=>?_;refine J.ru hX [] ?_;exact⟨by rw[may_out s ho],rfl⟩
  have ho:f9out s=false:=by unfold f9out;rw[hb2];exact h3
  refine J.q hX λ_=>?_;refine J.cond rfl (λh4=>?_) (λh4=>?_)
  ·simp only[beq_iff_eq]at h4;refine J.q hX λ_=>?_;refine J.ru hX [] ?_;exact⟨by rw[may_par s ho h4],rfl⟩
  simp only[beq_eq_false_iff_ne,ne_eq]at h4;have key:∀b,S.entry s=b->S.may s=b:=λb hb=>(may_own s ho h4).trans hb;refine J.q hX λ_=>?_;refine J.val hX (.bool (decide (s.data=zeros16))) 0 rfl rfl (λhg a w he hs=>?_) rfl trivial ?_
  ·rw[<- eqD s.data zeros16 h rfl];exact eqAgg_run (xs:=dataC s.data) (ys:=dataC zeros16) rfl rfl rfl he rfl rfl leavesD (fitsD _) (fitsD _) mkD gdD
  refine J.q hX λ_=>?_;refine J.cond rfl (λh5=>?_) (λh5=>?_)
  ·simp only[beq_iff_eq]at h5;refine J.q hX λ_=>?_;refine J.ru hX [] ?_;exact⟨by rw[key true (by unfold S.entry;rw[if_pos h5])],rfl⟩
  simp only[beq_eq_false_iff_ne,ne_eq]at h5;have k2:s.role=2\/s.role=4->S.may s=decide (s.data=zeros16):=λhr=>key _ (by unfold S.entry;rw[if_neg h5,if_pos hr]);refine J.q hX λ_=>?_;refine J.cond rfl (λh6=>?_) (λh6=>?_)
  ·have h6':=h6;simp only[beq_iff_eq]at h6';rw[h6];refine J.q hX λ_=>?_;refine J.cT ?_;refine J.q hX λ_=>?_;refine J.ru hX [] ?_;exact⟨by rw[k2 (.inl h6')],rfl⟩
  ·have h6':=h6;simp only[beq_eq_false_iff_ne,ne_eq]at h6';refine J.q hX λ_=>?_;refine J.cond rfl (λh7=>?_) (λh7=>?_)
   ·have h7':=h7;simp only[beq_iff_eq]at h7';refine J.q hX λ_=>?_;refine J.ru hX [] ?_;exact⟨by rw[k2 (.inr h7')],rfl⟩
   have h7':=h7;simp only[beq_eq_false_iff_ne,ne_eq]at h7';refine J.q hX λ_=>?_;refine J.cond rfl (λh8=>?_) (λh8=>?_)
   ·have h8':=h8;simp only[beq_iff_eq]at h8';refine J.run hX tk 400 (λb17=>rfl) (λb17=>?_) (λb17=>?_)
    ·(repeat' (first | exact Conj.nil | refine Conj.cons ?_ ?_ | exact rfl | exact hq | (rw[hq];rfl) | (rw[(Bool.not_eq_true' _).mp hq]) | intro hq | omega | (simp;done)))
    refine J.q hX λ_=>?_;refine J.ru hX [] ?_;exact⟨by rw[key _ (by unfold S.entry;rw[if_neg h5,if_neg (by omega),if_pos h8'])];rfl,rfl⟩
   ·have h8':=h8;simp only[beq_eq_false_iff_ne,ne_eq]at h8';refine J.q hX λ_=>?_;refine J.ru hX [] ?_;exact⟨by rw[key false (by unfold S.entry;rw[if_neg h5,if_neg (by omega),if_neg h8'])],rfl⟩
 ·have hb2:=(Bool.not_eq_false' _).mp hb;rw[hb2];refine J.q hX λ_=>?_;refine J.val hX (.int .i64 0) 0 rfl rfl (λhg a w he hw=>by simp[G.on]at hg) rfl trivial ?_;refine J.run hX tk 400 (λb21=>rfl) (λb21=>?_) (λb21=>?_)
  ·(repeat' (first | exact Conj.nil | refine Conj.cons ?_ ?_ | exact rfl | exact hq | (exact Bool.noConfusion hq) | (rw[hq];rfl) | (rw[(Bool.not_eq_true' _).mp hq]) | intro hq | omega | (simp;done)))
  refine J.q hX λ_=>?_;refine J.cT ?_;have ho:f9out s=true:=by unfold f9out;rw[hb2];rfl
  refine J.q hX λ_=>?_;refine J.ru hX [] ?_;exact⟨by rw[may_out s ho],rfl⟩
theorem hl_setRow {w:World} {g:Nat} {cur cs:Array Value} {t:TypeId} (h:w.heap[g]? =some (.cells cur t (0,0))):hl (w.setRow g cs)=hset (hl w) g (.cells cs t (0,0)):=by
 funext x;unfold hset
 by_cases e:x=g
 ·subst e;rw[if_pos rfl];exact setRow_heap w x cur cs t _ h
 ·rw[if_neg e];exact setRow_other w g x _ e
section
variable {X : Cx} {P : Program} {T : Tab} {K : List KI} {E : Env} {L : List Atom} {N : Nat} {F : HP} {Post : Value → List Atom → Prop} {rs : List ResultVar}
theorem J.copy (hX:IsCx X P rs N F Post) (hT:TabOK P T) {ops:Array Oper} {C:Cl} {lt:Bool} {i:Nat} {t:PT} {o:Oper} {g:G} {x y:Operand} {dT sT e by_:Nat} {kx tx ky ty:Nat} {gx gy:G} {b off dl dc b2 oo sl sc tb:Nat} {old xs:List Value} {s1 b1:Nat} {z1:List Value} {E':Value->Env} {Ay:Atom} (is iy:Nat)
  (ho:lget ops.toList i=some o) (hg:gd ops.toList E o=some g) (hgo:g.on=true) (hop:o.op= .call ⟨.builtin .copy,#[x,y],#[dT,sT]⟩)
  (hx:ev E x=some ⟨kx, .slice (some ⟨b,off,none⟩) dl dc,tx,gx⟩) (hvx:gx.on=true) (hy:ev E y=some ⟨ky, .slice (some ⟨b2,oo,none⟩) sl sc,ty,gy⟩) (hvy:gy.on=true)
  (hLx:lget L is=some (.pt b tb old)) (hLy:lget L iy=some Ay) (hrd:Rd Ay (some ⟨b2,oo,none⟩) 1 sl xs) (hst:T.get dT=some ⟨.slice e 1,s1,z1,b1⟩) {td:TD} {z:List Value} (he:T.get e=some ⟨td,1,z,by_⟩)
  (cs:List Value) (hcs:xs.take (Nat.min sl dl)=cs) (hlt:off+cs.length<=old.length) (h1:∀u∈xs,u.oneCell'=true) (cs':List Value) (hcs':old.take off++cs++old.drop (off+cs.length)=cs') {L2:List Atom} (hL2:lset L is (.pt b tb cs')=some L2)
  (hd:∀v,putE N o.dst v 0 .tt E=some (E' v)) (hJ:Conj (staysL lt C L2)/\J X (.reg ops C t::K) (E' (goInt cs.length)) L2):J X (.reg ops C (.alt lt i t .non)::K) E L:=by
 refine J.op hX (S:=λv' L'=>v'=goInt cs.length/\L'=L.set is (.pt b tb cs')) 0 ho hg hgo (λa0 w hen hs=>?_) hd (λv L' ⟨e1,e2⟩=>by subst e1;subst e2;rw[<- lset_eq hL2];exact hJ);rw[lget_eq]at hLx hLy;have ex:=ev_spec hen hx;have ey:=ev_spec hen hy;simp only[Slot.val,hvx,hvy]at ex ey;obtain⟨d,f,zv,ok⟩:=tiOf_spec (hT.get hst);obtain⟨fe,rfl,g1,g2⟩:=ok.slice rfl;have hblk:Blk w b tb old.toArray:=hs.pt hLx;have hrd2:=hrd _ (hs.get hLy);have hxl:xs.length=sl:=by rw[hrd2.1,Nat.mul_one]
 have hn:cs.length=Nat.min sl dl:=by
  rw[<- hcs,List.length_take,hxl];exact Nat.min_eq_left (Nat.min_le_left sl dl)
 have hsrc:∀j v,cs[j]? =some v->w.cell? ((⟨b2,oo,none⟩:Addr).add j)=some v:=λj u hu=>by
  have hj:j<cs.length:=(List.getElem?_eq_some_iff.1 hu).1;rw[<- hcs,List.getElem?_take]at hu;split at hu
  ·rw[Addr.add_none];refine rd_cell hrd2 ?_ hu;have:=(List.getElem?_eq_some_iff.1 hu).1;omega
  ·cases hu
 have h1':∀v∈cs,v.oneCell'=true:=λv hv=>h1 v (by rw[<- hcs]at hv;exact List.mem_of_mem_take hv);have hsz:(P.info? e).map (·.size)=some 1:=by rw[g1];exact congrArg some g2
 have hrun:=run_copy_row (P:=P) w dT sT o.type e b off dl dc ⟨b2,oo,none⟩ sl sc old.toArray tb cs ok.hd hsz hblk hn hsrc (by simpa using hlt) h1';have harr:(old.toArray.toList.take off++cs++old.toArray.toList.drop (off+cs.length)).toArray=cs'.toArray:=congrArg List.toArray hcs';rw[harr]at hrun;refine⟨_,_, .value (goInt cs.length),w.setRow b cs'.toArray,⟨rfl,rfl⟩,?_, .inl rfl,?_,Ext.grown (grown_setRow w b _)⟩
 ·simp only[execOp,hop,resolve,Sem.run_bind,Sem.run_pure,Result.andThen_ok,invoke,builtin,List.map_toArray,List.map_cons,List.map_nil,ex,ey,hrun]
 ·rw[hl_setRow hblk];exact hs.setPt cs' hLx
end
theorem f9_field (p:List UInt8) (hp:p.length=32) (fr w:Nat) (h:fr+w<=256) (hw:1<=w/\w<=64):Fn Tryz.prog 197 [pgV p, .int .i64 fr, .int .i64 w] [] (λv As=>v= .int .u64 (Bt.numAt p fr w)/\As=[]):=by
 have hnum:=Bt.numAt_num p fr w (by omega);have hul:=Bt.length_unpack p;refine Fn.enter [0,0,0] Tryz.func197 rfl rfl rfl λX F hX=>?_;refine J.q hX λbb=>?_;refine J.ca hX (by kernel_rfl) (f1_Of (.pt (bb 0) 118 (pageC p)) (some ⟨bb 0,0,none⟩) 32 32 p (by rw[<- pageC_eq p hp];exact pt_rd _ _ _ 1 32 rfl) hp (by decide)) [1] 0 rfl rfl rfl rfl rfl rfl (λ_=>rfl) ?_;rintro v As ⟨a,c,rfl,rfl⟩;refine⟨_,rfl,trivial,?_⟩;refine J.know (λh' s=>own_some (c:=(a,c)) (by omega) (s.get (i:=2) rfl)) λhg=>?_;obtain⟨g,rfl⟩:=hg;refine J.know (p:=32*8<=c) (λh' s=>by
  obtain⟨_,cur,h1,h2,_⟩:=s.get (i:=2) rfl;exact h2) λhc=>?_
 have hRd:Rd (ownA 4 1 (some g) (32*8) c (cellsB (Bt.unpack p))) (some ⟨g,0+fr*1,none⟩) 1 w (cellsB (((Bt.unpack p).drop fr).take w)):=by
  have:=((own_rd 4 1 (some g) (32*8) c (cellsB (Bt.unpack p))).drop fr (by omega)).take w (by omega);rw[cellsB_take,cellsB_drop];rw[Nat.mul_one]at this ⊢
  rwa [Nat.mul_one]at this
 refine J.q hX λ_=>?_;rw[show((fr:Int)+(w:Int)).toNat-(fr:Int).toNat=w from by omega,show(fr:Int).toNat=fr from by omega];refine J.q hX λ_=>?_;refine J.cb hX (f1_Num (ownA 4 1 (some g) (32*8) c (cellsB (Bt.unpack p))) (some ⟨g,0+fr*1,none⟩) w (c-fr) (((Bt.unpack p).drop fr).take w) hRd (by rw[List.length_take,List.length_drop];omega) (by omega)) [2] ?_;refine cpq ⟨_,rfl,trivial,?_⟩;rw[hnum];refine J.q hX λ_=>?_;exact J.ru hX [] ⟨rfl,rfl⟩
theorem f9_Get (p:List UInt8) (hp:p.length=32):Fn Tryz.prog 164 [pgV p] [] (λv As=>v= .tuple #[shV (S.getV p), .bool (S.get p).isSome]/\As=[]):=by
 obtain⟨r1,r2,r3⟩:=S.field_role p hp;obtain⟨r4,r5,r6,r7⟩:=S.field_rest p hp;have w1:=Bt.numAt_lt p 128 8;have w2:=Bt.numAt_lt p 136 16;have w3:=Bt.numAt_lt p 152 40;have w4:=Bt.numAt_lt p 192 8;have w5:=Bt.numAt_lt p 200 8;have w6:=Bt.numAt_lt p 208 8;have w7:=Bt.numAt_lt p 216 8;have w8:=Bt.numAt_lt p 224 32;rw[show(2:Nat)^8=256 from rfl]at w1 w4 w5 w6 w7;rw[show(2:Nat)^16=65536 from rfl]at w2;rw[show(2:Nat)^40=1099511627776 from rfl]at w3;rw[show(2:Nat)^32=4294967296 from rfl]at w8;refine Fn.enter [0] Tryz.func164 rfl rfl rfl λX F hX=>?_;have hpl:(p.take 16).length=16:=by rw[List.length_take,hp];rfl
 have hpc:(pageC p).take 16=dataC (p.take 16):=by rw[pageC_eq p hp,dataC_eq _ hpl,List.map_take]
 have hone:∀u∈pageC p,u.oneCell'=true:=by
  rw[pageC_eq p hp];intro u hu;obtain⟨b,_,rfl⟩:=List.mem_map.1 hu;rfl
 have hsum:K.sum (p.take 28)<4294967296:=K.sum_lt _;refine J.q hX λbb=>?_;refine J.plan (.of [0,4,8,14]) [] [1] (by rw[hX.hP];kernel_rfl) (by kernel_rfl) ?_;refine J.q hX λ_=>?_;have hRd:∀k,k<=32->Rd (.pt (bb 0) 118 (pageC p)) (some ⟨bb 0,0+0*1,none⟩) 1 k ((pageC p).take k):=λk hk=>by
  have:=(pt_rd (bb 0) 118 (pageC p) 1 32 rfl).take k hk
  rwa [Nat.mul_one]at this
 refine J.copy hX tk 3 1 rfl rfl rfl rfl rfl rfl rfl rfl rfl rfl (hRd 16 (by decide)) rfl rfl (dataC (p.take 16)) (by rw[<- hpc];exact List.take_of_length_le (Nat.le_refl _)) (Nat.le_of_ble_eq_true rfl) (λu hu=>hone u (List.mem_of_mem_take hu)) (shL ⟨p.take 16,0,0,0,0,0,0,0⟩) rfl rfl (λ_=>rfl) ⟨⟨rfl,trivial⟩,?_⟩;refine J.q hX λ_=>?_;refine J.plan (.of [1,13,25,6,8,18,20,30,32,36,42,44,50,52,59]) [13,14] [1] (by rw[hX.hP];kernel_rfl) (by kernel_rfl) ?_;refine J.q hX λ_=>?_;refine J.cb hX (f9_field p hp 128 8 (by omega) (by omega)) [] ?_;refine cpq ⟨_,rfl,⟨rfl,trivial⟩,?_⟩;refine J.q hX λ_=>?_;refine J.cb hX (f9_field p hp 136 16 (by omega) (by omega)) [] ?_;refine cpq ⟨_,rfl,⟨rfl,trivial⟩,?_⟩;refine J.q hX λ_=>?_;refine J.cb hX (f9_field p hp 152 40 (by omega) (by omega)) [] ?_;refine cpq ⟨_,rfl,⟨rfl,trivial⟩,?_⟩;refine J.q hX λ_=>?_;refine J.plan (.of [1,13,25,37,6,8,18,20,30,32,42,44,48,54,56,62,64,70,72,79]) [18,19] [1] (by rw[hX.hP];kernel_rfl) (by kernel_rfl) ?_;refine J.q hX λ_=>?_;refine J.cb hX (f9_field p hp 192 8 (by omega) (by omega)) [] ?_;refine cpq ⟨_,rfl,⟨rfl,trivial⟩,?_⟩;refine J.q hX λ_=>?_;refine J.cb hX (f9_field p hp 200 8 (by omega) (by omega)) [] ?_;refine cpq ⟨_,rfl,⟨rfl,trivial⟩,?_⟩;refine J.q hX λ_=>?_;refine J.cb hX (f9_field p hp 208 8 (by omega) (by omega)) [] ?_;refine cpq ⟨_,rfl,⟨rfl,trivial⟩,?_⟩;refine J.q hX λ_=>?_;refine J.cb hX (f9_field p hp 216 8 (by omega) (by omega)) [] ?_;refine cpq ⟨_,rfl,⟨rfl,trivial⟩,?_⟩;have hsf:(⟨p.take 16,(Bt.numAt p 128 8:Nat),(Bt.numAt p 136 16:Nat),(Bt.numAt p 152 40:Nat),(Bt.numAt p 216 8:Nat),(Bt.numAt p 192 8:Nat),(Bt.numAt p 200 8:Nat),(Bt.numAt p 208 8:Nat)⟩:Sh)=S.fields p:=by
  rw[<- r1,<- r2,<- r3,<- r4,<- r5,<- r6,<- r7];rfl
 have hmayc:=f9_May ⟨p.take 16,(Bt.numAt p 128 8:Nat),(Bt.numAt p 136 16:Nat),(Bt.numAt p 152 40:Nat),(Bt.numAt p 216 8:Nat),(Bt.numAt p 192 8:Nat),(Bt.numAt p 200 8:Nat),(Bt.numAt p 208 8:Nat)⟩ hpl;have hget:=S.get_some p hp;refine J.q hX λ_=>?_;refine J.plan (.of [1,12,6,8,18,20,24,29,34,36,40]) [] [1,3] (by rw[hX.hP];kernel_rfl) (by kernel_rfl) ?_;refine J.q hX λ_=>?_;refine J.cb hX (f9_field p hp 224 32 (by omega) (by omega)) [] ?_;refine cpq ⟨_,rfl,⟨rfl,rfl,trivial⟩,?_⟩;refine J.q hX λ_=>?_;refine J.cb hX (f1_Sum (.pt (bb 0) 118 (pageC p)) (some ⟨bb 0,0+0*1,none⟩) 28 32 (p.take 28) (by rw[List.map_take,<- pageC_eq p hp];exact hRd 28 (by decide)) (by rw[List.length_take,hp];rfl) (by decide)) [1] ?_;refine cpq ⟨_,rfl,⟨rfl,rfl,trivial⟩,?_⟩;refine J.q hX λ_=>?_;refine J.gcase hX rfl rfl rfl ⟨rfl,rfl,trivial⟩ (λhb=>?_) (λhb=>?_)
 ·have hb2:(((Bt.numAt p 224 32:Nat):Int) !=((K.sum (p.take 28):Nat):Int))=false:=by simpa using hb
  rw[hb2];refine J.q hX λ_=>?_;refine J.cb hX (hmayc) [] ?_;refine cpq ⟨_,rfl,⟨rfl,rfl,trivial⟩,?_⟩;rw[hsf];have heq:Bt.numAt p 224 32=K.sum (p.take 28):=by
   simp only[Bool.not_eq_true',bne_eq_false_iff_eq]at hb;omega
  refine J.q hX λ_=>?_;refine J.cond rfl (λh1=>?_) (λh1=>?_)
  ·have hg:S.get p=none:=by
    rw[hget,if_neg];rintro⟨_,hm⟩;rw[hm]at h1;simp at h1
   refine J.q hX λ_=>?_;refine J.ru hX [] ?_;exact⟨by unfold S.getV;rw[hg];rfl,rfl⟩
  ·have hg:S.get p=some (S.fields p):=by
    rw[hget,if_pos];refine⟨heq,?_⟩;cases hm:S.may (S.fields p)with
    | true=>rfl
    | false=>rw[hm]at h1;simp at h1
   refine J.q hX λ_=>?_;refine J.ru hX [] ?_;exact⟨by unfold S.getV;rw[hg,Option.getD_some,<- hsf];rfl,rfl⟩
 ·have hb2:(((Bt.numAt p 224 32:Nat):Int) !=((K.sum (p.take 28):Nat):Int))=true:=by simpa using hb
  rw[hb2];have hne:Bt.numAt p 224 32≠K.sum (p.take 28):=by
   simp only[Bool.not_eq_false',bne_iff_ne,ne_eq]at hb;omega
  have hg:S.get p=none:=by
   rw[hget,if_neg];exactλh=>hne h.1
  refine J.q hX λ_=>?_;refine J.valT hX (.bool false) 0 rfl rfl (λhg a w he hC=>by simp[G.on]at hg) rfl ?_;refine J.q hX λ_=>?_;refine J.cond rfl (λh1=>?_) (λh1=>?_)
  ·refine J.q hX λ_=>?_;refine J.ru hX [] ?_;exact⟨by unfold S.getV;rw[hg];rfl,rfl⟩
  ·simp at h1
theorem f9_Own (b r m:Int) (e:En) (h:e.data.length=16):Fn Tryz.prog 168 [.int .i64 b, .int .i64 r, .int .i64 m,enV e] [] (λv As=>v= .tuple #[shV (W.own b r m e), .bool (W.ok b r m e)]/\As=[]):=by
 refine Fn.enter [0,0,0,0] Tryz.func168 rfl rfl rfl λX F hX=>?_;refine J.q hX λ_=>?_;refine J.cb hX (f9_May (W.sh b r m e) h) [] ?_;refine cpq ⟨_,rfl,trivial,?_⟩;refine J.q hX λ_=>?_;refine J.cond rfl (λh1=>?_) (λh1=>?_)
 ·simp only[Bool.not_eq_true']at h1;refine J.q hX λ_=>?_;refine J.ru hX [] ?_;exact⟨by rw[W.own,W.ok,h1];rfl,rfl⟩
 ·simp only[Bool.not_eq_false']at h1;refine J.q hX λ_=>?_;refine J.ru hX [] ?_;exact⟨by rw[W.own,W.ok,h1];rfl,rfl⟩
namespace F9
def xo (m n:Int):Int:=IntKind.i64.wrap ((BitVec.ofInt IntKind.i64.bits m ^^^ BitVec.ofInt IntKind.i64.bits n).toNat:Int)
def mixS (a b:Sh) (k:Nat):Sh:=⟨W.mix a.data b.data k,a.role,a.lpn,a.seq,a.kind,a.block,a.row,a.mask⟩
def over (a b:Sh):Sh:=⟨W.mix a.data b.data 16,xo a.role b.role,xo a.lpn b.lpn,xo a.seq b.seq,a.kind,a.block,a.row,a.mask⟩
end F9
theorem shL_get {s:Sh} (h:s.data.length=16) {k:Nat} (hk:k<16):(shL s)[k]? =some (bv (s.data.getD k 0)):=by
 have e:shL s=dataC s.data++[.int .i64 s.role, .int .i64 s.lpn, .int .i64 s.seq, .int .i64 s.kind, .int .i64 s.block, .int .i64 s.row, .int .i64 s.mask]:=rfl;rw[e,List.getElem?_append_left (by show k<16;exact hk),dataC_get h hk]
theorem shL_set {a b:Sh} (ha:a.data.length=16) (hb:b.data.length=16) {k:Nat} (hk:k<16):(shL (F9.mixS a b k)).set k (bv (a.data.getD k 0 ^^^ b.data.getD k 0))=shL (F9.mixS a b (k+1)):=by
 have e:∀s:Sh,shL s=dataC s.data++[.int .i64 s.role, .int .i64 s.lpn, .int .i64 s.seq, .int .i64 s.kind, .int .i64 s.block, .int .i64 s.row, .int .i64 s.mask]:=λs=>rfl;rw[e,e,List.set_append_left _ _ (by show k<16;exact hk)];show(dataC (W.mix a.data b.data k)).set k _++_=dataC (W.mix a.data b.data (k+1))++_;rw[dataC_set (mix_len ha hb k (by omega)),mix_set ha hb hk];rfl
theorem f9_over (a b:Sh) (ha:a.data.length=16) (hb:b.data.length=16):Fn Tryz.prog 167 [shV a,shV b] [] (λv As=>v=shV (F9.over a b)/\As=[]):=by
 refine Fn.enter [0,0] Tryz.func167 rfl rfl rfl λX F hX=>?_;refine J.q hX λbb=>?_;refine J.lo (α:=Nat) (λi=>i<=16) (λi=>[⟨5, .int .i64 i,0, .tt⟩,⟨2, .pointer (some ⟨bb 0,0,none⟩),2, .tt⟩,⟨3, .pointer (some ⟨bb (0+1),0,none⟩),3, .tt⟩,⟨4, .pointer (some ⟨bb (0+1+1),0,none⟩),4, .tt⟩]) [1] (λi=>[.pt (bb 0) 132 (shL (F9.mixS a b i))]) (λi=>16-i) (0) (Nat.zero_le _) rfl ?_ (λ_=>rfl) λi hI=>?_
 ·rw[show F9.mixS a b 0=a from by simp[F9.mixS,W.mix]];rfl
 have hml:=mix_len ha hb i hI;refine J.q hX λ_=>?_;refine J.cond rfl (λh2=>?_) (λh2=>?_)
 ·simp only[decide_eq_true_eq]at h2;have h3:i<16:=by omega
  refine J.q hX λ_=>?_;refine J.plan (.of [0,4,8,13,16,20,24,29,32,36,40,47]) [10,11] [1,2,3] (by rw[hX.hP];kernel_rfl) (by kernel_rfl) ?_;refine J.q hX λ_=>?_;refine J.valT hX (bv (a.data.getD i 0)) 0 rfl rfl (λhg a w he hC=>?_) rfl ?_
  ·exact load1_run tk rfl rfl he hg rfl rfl (hC rfl _ (cget_mem (i:=1) rfl)) (by rw[show 0+0+(i:Int).toNat*1=i from by omega,shL_get hml h3];exact congrArg (λz=>some (bv z)) (mix_get ha hb h3))
  refine J.q hX λ_=>?_;refine J.valT hX (bv (b.data.getD i 0)) 0 rfl rfl (λhg a w he hC=>?_) rfl ?_
  ·exact load1_run tk rfl rfl he hg rfl rfl (hC rfl _ (cget_mem (i:=2) rfl)) (by rw[show 0+0+(i:Int).toNat*1=i from by omega];exact shL_get hb h3)
  refine J.q hX λ_=>?_;refine J.store1 hX tk 1 rfl rfl rfl rfl rfl rfl rfl rfl rfl rfl rfl rfl rfl ?_ (shL (F9.mixS a b (i+1))) ?_ rfl (λ_=>rfl) ⟨trivial,?_⟩
  ·show 0+0+(i:Int).toNat*1<23;omega
  ·rw[show 0+0+(i:Int).toNat*1=i from by omega,xor_u8b];exact shL_set ha hb h3
  refine J.q hX λ_=>?_;refine J.nx (i+1) (by omega) (by omega) (λ_ s=>s)
 ·simp only[decide_eq_false_iff_not]at h2;obtain rfl:i=16:=by omega
  refine J.q hX λ_=>?_;refine J.plan (.take true 0 (.take true 2 (.take false 3 (.take true 5 (.take true 7 (.take false 8 (.take true 10 (.take true 12 (.take false 13 (.alt false 1 ((.take true 4 (.alt false 6 ((.of [36,46,56,60,66,68,74,76,83])) (.alt false 11 ((.of [56,26,36,60,66,68,74,76,83])) .non)))) (.alt false 6 ((.take true 9 (.alt false 1 ((.of [16,46,56,60,66,68,74,76,83])) (.alt false 11 ((.of [56,6,16,60,66,68,74,76,83])) .non)))) (.alt false 11 ((.take true 14 (.alt false 1 ((.of [16,26,36,60,66,68,74,76,83])) (.alt false 6 ((.of [36,6,16,60,66,68,74,76,83])) .non)))) .non)))))))))))) [19,20] [2,3] (by rw[hX.hP];kernel_rfl) (by kernel_rfl) ?_;refine J.q hX λ_=>?_;refine J.alts ?_ (J.alts ?_ ?_)
  all_goals skip
  ·skip
   refine J.q hX λ_=>?_;refine J.alts ?_ ?_
   ·skip
    refine J.q hX λ_=>?_;exact J.ru hX [] ⟨rfl,rfl⟩
   ·skip
    refine J.q hX λ_=>?_;exact J.ru hX [] ⟨rfl,rfl⟩
  ·skip
   refine J.q hX λ_=>?_;refine J.alts ?_ ?_
   ·skip
    refine J.q hX λ_=>?_;exact J.ru hX [] ⟨rfl,rfl⟩
   ·skip
    refine J.q hX λ_=>?_;exact J.ru hX [] ⟨rfl,rfl⟩
  ·skip
   refine J.q hX λ_=>?_;refine J.alts ?_ ?_
   ·skip
    refine J.q hX λ_=>?_;exact J.ru hX [] ⟨rfl,rfl⟩
   ·skip
    refine J.q hX λ_=>?_;exact J.ru hX [] ⟨rfl,rfl⟩
theorem slots_dI (m:Int):(if 2<=(dI m).length then((dI m).length:Int)-1 else 0)=G.slots m:=by
 rw[dI_count,G.slots]
 by_cases h:L.count m<2
 ·rw[if_pos h,if_neg (by omega)]
 ·rw[if_neg h,if_pos (by omega)]
theorem dI_dies (m:Int):dI m=(L.dies m).map (λd:Nat=>(d:Int)):=by
 unfold dI dsk L.dies;congr 1;cases hs:L.set m with
 | false=>
  rw[if_neg (by simp)];refine List.filter_eq_nil_iff.2 λd _=>?_;simp[L.has,hs]
 | true=>
  rw[if_pos rfl];refine List.filter_congr λd hd=>?_;rw[List.mem_range]at hd;simp[L.has,hs,hd];omega
theorem dI_at (m:Int) (i:Nat) (hi:i<L.count m):(dI m)[i]? =some (L.at_ m i):=by
 have h1:i<(L.dies m).length:=hi;rw[dI_dies,List.getElem?_map,L.at_,if_pos (by omega),Int.toNat_natCast,List.getElem?_eq_getElem h1];rfl
theorem par_idx (b r c:Int) (hb:0<=b) (hr:0<=r) (hc:0<c):(b.tmod c+r.tmod c).tmod c=(b+r) % c/\(0<=b.tmod c/\b.tmod c<c)/\(0<=r.tmod c/\r.tmod c<c):=by
 rw[Int.tmod_eq_emod_of_nonneg hb,Int.tmod_eq_emod_of_nonneg hr];have h1:=Int.emod_nonneg b (show c≠0 by omega);have h2:=Int.emod_nonneg r (show c≠0 by omega);have h3:=Int.emod_lt_of_pos b hc;have h4:=Int.emod_lt_of_pos r hc;refine⟨?_,⟨h1,h3⟩,h2,h4⟩;rw[Int.tmod_eq_emod_of_nonneg (by omega),<- Int.add_emod]
theorem f6_Parity (m b r:Int):Fn Tryz.prog 123 [.int .i64 m, .int .i64 b, .int .i64 r] [] (λv As=>v= .int .i64 (G.parity m b r)/\As=[]):=by
 have hcnt:=dI_count m;have hc8:=L.count_le m;refine Fn.enter [0,0,0] Tryz.func123 rfl rfl rfl λX F hX=>?_;refine J.q hX λ_=>?_;refine J.cb hX (f1_Dies m) [] ?_;rintro v As ⟨a,c,rfl,rfl⟩;refine⟨_,rfl,trivial,?_⟩;rw[hcnt];refine J.q hX λ_=>?_;refine J.cond rfl (λh1=>?_) (λh1=>?_)
 ·refine J.q hX λ_=>?_;refine J.ru hX [] ?_;refine⟨?_,rfl⟩;unfold G.parity;rw[if_pos];simp only[Bool.or_eq_true,decide_eq_true_eq]at h1;omega
 ·simp only[Bool.or_eq_false_iff,decide_eq_false_iff_not]at h1;obtain⟨⟨h1,h2⟩,h3⟩:=h1;have hp:G.parity m b r=L.at_ m ((b+r) % (L.count m:Int)):=by unfold G.parity;rw[if_neg (by omega)]
  obtain⟨e1,e2,e3⟩:=par_idx b r (L.count m) (by omega) (by omega) (by omega);have e4:=Int.emod_nonneg (b+r) (show(L.count m:Int)≠0 by omega);have e5:=Int.emod_lt_of_pos (b+r) (show 0<(L.count m:Int)by omega);obtain⟨i,hi⟩:=Int.eq_ofNat_of_zero_le e4;rw[hi]at e1 e5 hp;have hat:=dI_at m i (by omega);refine J.know (λh' s=>own_some (c:=(a,c)) (by omega) (s.get (i:=1) rfl)) λhg=>?_;obtain⟨g1,rfl⟩:=hg;have e6:=tm_bd b (L.count m) (by omega);refine J.q hX λ_=>?_;refine J.plan (.of [0,4,8,12,16,20,24,28,32,36,40,44,48,52,57,60]) [15] [1] (by rw[hX.hP];kernel_rfl) (by kernel_rfl) ?_;refine J.qn hX 13 λ_=>?_;rw[e1];refine J.q hX λ_=>?_;refine J.valT hX (.int .i64 (L.at_ m (i:Nat))) 0 rfl rfl (λhg a w he hC=>own1_run tk rfl rfl he rfl rfl rfl (hC rfl _ (cget_mem (i:=1) rfl)) (by rw[show 0+(i:Int).toNat*1=i from by omega];exact cellsI_get hat)) rfl ?_;refine J.q hX λ_=>?_;refine J.ru hX [] ?_;exact⟨by rw[hp],rfl⟩
theorem spot_mem (l:List Int) (d:Int):decide (spotI l d>=0)=decide (d∈l):=by
 induction l with
 | nil=>rfl
 | cons x l ih=>
  unfold spotI
  by_cases h:x=d
  ·rw[if_pos h,decide_eq_true (by decide:(0:Int)>=0),decide_eq_true (by rw[h];exact List.mem_cons_self)]
  ·rw[if_neg h]
   by_cases h2:d∈l
   ·rw[decide_eq_true h2]at ih;have:=of_decide_eq_true ih;rw[if_neg (by omega),decide_eq_true (by omega),decide_eq_true (List.mem_cons_of_mem _ h2)]
   ·rw[decide_eq_false h2]at ih;have:=of_decide_eq_false ih;rw[if_pos (by omega),decide_eq_false (by omega),decide_eq_false (by
     intro hm;rcases List.mem_cons.1 hm with e | e
     ·exact h e.symm
     ·exact h2 e)]
theorem spot_hasI (m d:Int):decide (spotI (dI m) d>=0)=L.has m d:=by
 have hmem:d∈dI m↔L.has m d=true:=by
  unfold dI dsk;constructor
  ·intro h;obtain⟨k,hk,e⟩:=List.mem_map.1 h;subst e;exact(List.mem_filter.1 hk).2
  ·intro h;have h8:=L.has_lt m d h;obtain⟨k,rfl⟩:=Int.eq_ofNat_of_zero_le h8.1;exact List.mem_map.2 ⟨k,List.mem_filter.2 ⟨List.mem_range.2 (by omega),h⟩,rfl⟩
 rw[spot_mem,decide_eq_decide.2 hmem];exact Bool.decide_coe _
theorem f9_Look (p:Nat) (N:Nand) (hN:N.Ok) (hR:N.Room) (x y z:Int):Fn Tryz.prog 122 [.pointer (some ⟨p,0,none⟩), .agg #[.int .i64 x, .int .i64 y, .int .i64 z]] [NandA p N]
  (λv As=>v= .tuple #[shV (M.look N x y z).1, .int .i64 (M.look N x y z).2]/\As=[NandA p N]):=by
 refine Fn.enter [2,0] Tryz.func122 rfl rfl rfl λX F hX=>?_;refine J.q hX λ_=>?_;refine J.cb hX (n_Read p N hN x y z) [1] ?_;refine cpq ⟨_,rfl,trivial,?_⟩;have hl0:∀e,N.readE x y z=e->e≠0->M.look N x y z=if e=5 then(Sh.zero,2)else if e=8\/e=9\/e=3\/e=12 then(Sh.zero,4)else(Sh.zero,3):=λe he h=>by
  simp only[M.look];rw[he,if_neg h]
 have hlk:N.readE x y z=0->M.look N x y z=if S.getE (N.readV x y z)≠0\/M.bad (S.getV (N.readV x y z)) x y z=true then(Sh.zero,3)else(S.getV (N.readV x y z),1):=λh1=>by simp only[M.look];rw[if_pos h1]
 have hvl:=readV_len hN x y z;generalize N.readE x y z=e at hl0 hlk;refine J.q hX λ_=>?_;refine J.cond rfl (λh1=>?_) (λh1=>?_)
 ·simp only[beq_iff_eq]at h1;subst h1;refine J.q hX λ_=>?_;refine J.ru hX [1] ?_;rw[hl0 5 rfl (by decide)];exact⟨rfl,rfl⟩
 have H4:e=8\/e=9\/e=3\/e=12->M.look N x y z=(Sh.zero,4):=λh=>by
  rw[hl0 e rfl (by omega),if_neg (by omega),if_pos h]
 refine J.q hX λ_=>?_;refine J.cond rfl (λh2=>?_) (λh2=>?_)
 ·rw[h2];refine J.q hX λ_=>?_;refine J.cT ?_;simp only[beq_iff_eq]at h2;refine J.q hX λ_=>?_;refine J.ru hX [1] ?_;rw[H4 (.inl h2)];exact⟨rfl,rfl⟩
 refine J.q hX λ_=>?_;refine J.cond rfl (λh3=>?_) (λh3=>?_)
 ·rw[h3];refine J.q hX λ_=>?_;refine J.cT ?_;simp only[beq_iff_eq]at h3;refine J.q hX λ_=>?_;refine J.ru hX [1] ?_;rw[H4 (.inr (.inl h3))];exact⟨rfl,rfl⟩
 refine J.q hX λ_=>?_;refine J.cond rfl (λh4=>?_) (λh4=>?_)
 ·rw[h4];refine J.q hX λ_=>?_;refine J.cT ?_;simp only[beq_iff_eq]at h4;refine J.q hX λ_=>?_;refine J.ru hX [1] ?_;rw[H4 (.inr (.inr (.inl h4)))];exact⟨rfl,rfl⟩
 refine J.q hX λ_=>?_;refine J.cond rfl (λh5=>?_) (λh5=>?_)
 ·simp only[beq_iff_eq]at h5;refine J.q hX λ_=>?_;refine J.ru hX [1] ?_;rw[H4 (.inr (.inr (.inr h5)))];exact⟨rfl,rfl⟩
 refine J.q hX λ_=>?_;refine J.cond rfl (λh6=>?_) (λh6=>?_)
 ·simp only[beq_iff_eq]at h6;have hlk:=hlk h6;refine J.q hX λ_=>?_;refine J.cb hX (f9_Get (N.readV x y z) hvl) [] ?_;refine cpq ⟨_,rfl,trivial,?_⟩;refine J.q hX λ_=>?_;refine J.plan (.of [0,5,8,13,16,21,28,33,26,36,40]) [9,10] [1,2,3,4,5] (by rw[hX.hP];kernel_rfl) (by kernel_rfl) ?_;refine J.q hX λ_=>?_;refine J.cb hX (f6_Parity (S.getV (N.readV x y z)).mask (S.getV (N.readV x y z)).block (S.getV (N.readV x y z)).row) [] ?_;refine cpq ⟨_,rfl,⟨rfl,rfl,rfl,rfl,rfl,trivial⟩,?_⟩;have hgE:S.getE (N.readV x y z)=if(S.get (N.readV x y z)).isSome then 0 else 1:=rfl
  generalize S.getE (N.readV x y z)=ge at hlk hgE;generalize(S.get (N.readV x y z)).isSome=gs at hgE;generalize S.getV (N.readV x y z)=s at hlk;refine J.q hX λ_=>?_;refine J.gcase hX rfl rfl rfl trivial (λhb=>?_) (λhb=>?_)
  ·rw[hb];refine J.q hX λ_=>?_;refine J.cb hX (f1_Spot s.mask x) [] ?_;refine cpq ⟨_,rfl,trivial,?_⟩;have hsp:=spot_hasI s.mask x;refine J.q hX λ_=>?_;rw[hsp];simp only[Bool.and_eq_true,beq_iff_eq]at hb;have hge:ge=0:=by rw[hgE,if_pos hb.1.1]
   refine J.q hX λ_=>?_;refine J.cond rfl (λh7=>?_) (λh7=>?_)
   ·have hc:¬(ge≠0\/M.bad s x y z=true):=by
     have:M.bad s x y z=false:=by
      unfold M.bad;simp only[Bool.true_and,Bool.and_eq_true]at h7;rw[h7.1];have h8:=h7.2;rw[beq_iff_eq]at h8;rw[h8,hb.1.2,hb.2];simp
     rw[this,hge];simp
    refine J.q hX λ_=>?_;refine J.ru hX [1] ?_;rw[hlk,if_neg hc];exact⟨rfl,rfl⟩
   ·have hc:ge≠0\/M.bad s x y z=true:=by
     right;unfold M.bad;rw[hb.1.2,hb.2];cases hh:L.has s.mask x with
     | false=>simp
     | true=>
      rw[hh]at h7;simp only[Bool.true_and]at h7;rw[beq_eq_false_iff_ne,hb.1.2,hb.2]at h7;simpa using h7
    refine J.q hX λ_=>?_;refine J.ru hX [1] ?_;rw[hlk,if_pos hc];exact⟨rfl,rfl⟩
  ·rw[hb];refine J.q hX λ_=>?_;refine J.val hX (.bool false) 0 rfl rfl (λhg a w he hw=>by simp[G.on]at hg) rfl trivial ?_;have hc:ge≠0\/M.bad s x y z=true:=by
    cases gs with
    | false=>left;rw[hgE];decide
    | true=>
     right;rw[Bool.true_and,Bool.and_eq_false_iff]at hb;unfold M.bad;rcases hb with h | h
     ·rw[beq_eq_false_iff_ne]at h;simp[h]
     ·rw[beq_eq_false_iff_ne]at h;simp[h]
   refine J.q hX λ_=>?_;refine J.cond rfl (λh7=>?_) (λh7=>?_)
   ·simp at h7
   ·refine J.q hX λ_=>?_;refine J.ru hX [1] ?_;rw[hlk,if_pos hc];exact⟨rfl,rfl⟩
 simp only[beq_eq_false_iff_ne,ne_eq]at h1 h2 h3 h4 h5 h6;refine J.q hX λ_=>?_;refine J.ru hX [1] ?_;rw[hl0 e rfl h6,if_neg h1,if_neg (by omega)];exact⟨rfl,rfl⟩
theorem f9_entry (s:Sh):Fn Tryz.prog 79 [shV s] [] (λv As=>v=enV s.en/\As=[]):=by
 refine Fn.enter [0] Tryz.func79 rfl rfl rfl λX F hX=>?_;refine J.q hX λ_=>?_;exact J.ru hX [] ⟨rfl,rfl⟩
theorem f9_one (p:Nat) (N:Nand) (hN:N.Ok) (hR:N.Room) (b r m d:Int):Fn Tryz.prog 78 [.pointer (some ⟨p,0,none⟩), .int .i64 b, .int .i64 r, .int .i64 m, .int .i64 d] [NandA p N]
  (λv As=>v= .tuple #[shV (R.one N b r m d).1, .bool (R.one N b r m d).2]/\As=[NandA p N]):=by
 refine Fn.enter [2,0,0,0,0] Tryz.func78 rfl rfl rfl λX F hX=>?_;refine J.q hX λ_=>?_;refine J.cb hX (f9_Look p N hN hR d b r) [1] ?_;refine cpq ⟨_,rfl,trivial,?_⟩;refine J.q hX λ_=>?_;refine J.plan (.of [1,4,8,12,16,21,24,28,32,38,40]) [10] [1,3] (by rw[hX.hP];kernel_rfl) (by kernel_rfl) ?_;refine J.q hX λ_=>?_;exact J.ru hX [1] ⟨rfl,rfl⟩
end Go.Proofs.YtdocmcapegcoeaaGreat
namespace Go.Proofs.YtdocmcapegcoeaaGreat
open Go
theorem gD {l:List Int} {i:Nat} (h:i<l.length):l[i]? =some (l.getD i 0):=by rw[List.getD_eq_getElem?_getD,List.getElem?_eq_getElem h,Option.getD_some]
theorem swp_get (l:List Int) {j:Nat} (h1:1<=j) (h:j<l.length) (i:Nat):(swpI l j).getD i 0=if i=j-1 then l.getD j 0 else if i=j then l.getD (j-1) 0 else l.getD i 0:=by
 unfold swpI;rw[List.getD_eq_getElem?_getD,List.getElem?_set,List.length_set]
 by_cases e:j-1=i
 ·rw[if_pos e,if_pos (by omega),if_pos e.symm,Option.getD_some]
 ·rw[if_neg e,if_neg (by omega),List.getElem?_set]
  by_cases e2:j=i
  ·rw[if_pos e2,if_pos (by omega),if_pos e2.symm,Option.getD_some]
  ·rw[if_neg e2,if_neg (by omega),<- List.getD_eq_getElem?_getD]
theorem mem_gD {l:List Int} {x:Int}:x∈l↔∃i,i<l.length/\l.getD i 0=x:=by
 constructor
 ·intro h;obtain⟨i,hi,e⟩:=List.getElem_of_mem h;exact⟨i,hi,by rw[List.getD_eq_getElem?_getD,List.getElem?_eq_getElem hi,Option.getD_some];exact e⟩
 ·rintro⟨i,hi,e⟩;exact List.mem_of_getElem? (by rw[gD hi,e])
theorem swp_mem (l:List Int) {j:Nat} (h1:1<=j) (h:j<l.length) (x:Int):x∈swpI l j↔x∈l:=by
 rw[mem_gD,mem_gD,swpI_len];constructor
 ·rintro⟨i,hi,e⟩;rw[swp_get l h1 h]at e;split at e
  ·exact⟨j,h,e⟩
  ·split at e
   ·exact⟨j-1,by omega,e⟩
   ·exact⟨i,hi,e⟩
 ·rintro⟨i,hi,e⟩
  by_cases e1:i=j
  ·exact⟨j-1,by omega,by rw[swp_get l h1 h,if_pos rfl,<- e1,e]⟩
  ·by_cases e2:i=j-1
   ·exact⟨j,h,by rw[swp_get l h1 h,if_neg (by omega),if_pos rfl,<- e2,e]⟩
   ·exact⟨i,hi,by rw[swp_get l h1 h,if_neg e2,if_neg e1,e]⟩
theorem sink_mem:∀(j:Nat) (l:List Int) (x:Int),j<l.length->(x∈sinkI j l↔x∈l)
 | 0,_,_,_=>Iff.rfl
 | j+1,l,x,h=>by
  unfold sinkI;split
  ·rw[sink_mem j _ x (by rw[swpI_len];omega),swp_mem l (by omega) h]
  ·exact Iff.rfl
theorem sink_sort:∀(j n:Nat) (l:List Int),j<=n->n<l.length->(∀a b,a<b->b<=n->a≠j->b≠j->l.getD a 0<=l.getD b 0)->(∀b,j<b->b<=n->l.getD j 0<=l.getD b 0)->∀a b,a<b->b<=n->(sinkI j l).getD a 0<=(sinkI j l).getD b 0
 | 0,n,l,_,_,hs,hu=>λa b hab hb=>by
  unfold sinkI
  by_cases e:a=0
  ·subst e;exact hu b hab hb
  ·exact hs a b hab hb e (by omega)
 | j+1,n,l,hj,hn,hs,hu=>by
  unfold sinkI;split
  ·rename_i hlt;have g:=swp_get l (j:=j+1) (by omega) (by omega);simp only[Nat.add_sub_cancel]at g;refine sink_sort j n (swpI l (j+1)) (by omega) (by rw[swpI_len];exact hn) (λa b hab hb ha hbj=>?_) (λb hjb hb=>?_)
   ·rw[g,g,if_neg ha,if_neg hbj]
    by_cases e1:a=j+1
    ·rw[if_pos e1,if_neg (by omega)];exact hs j b (by omega) hb (by omega) (by omega)
    ·rw[if_neg e1]
     by_cases e2:b=j+1
     ·rw[if_pos e2];exact hs a j (by omega) (by omega) e1 (by omega)
     ·rw[if_neg e2];exact hs a b hab hb e1 e2
   ·rw[g,g,if_pos rfl,if_neg (by omega)]
    by_cases e2:b=j+1
    ·rw[if_pos e2];omega
    ·rw[if_neg e2];exact hu b (by omega) hb
  ·rename_i hge;intro a b hab hb
   by_cases e1:a=j+1
   ·subst e1;exact hu b hab hb
   ·by_cases e2:b=j+1
    ·subst e2
     by_cases e3:a=j
     ·subst e3;omega
     ·have:=hs a j (by omega) (by omega) e1 (by omega);omega
    ·exact hs a b hab hb e1 e2
theorem isort_mem (l:List Int) (x:Int):∀k,k<l.length->(x∈isortI l k↔x∈l)
 | 0,_=>Iff.rfl
 | k+1,h=>by
  unfold isortI;rw[sink_mem _ _ x (by rw[isortI_len];exact h)];exact isort_mem l x k (by omega)
theorem isort_sort (l:List Int):∀k,k<l.length->∀a b,a<b->b<=k->(isortI l k).getD a 0<=(isortI l k).getD b 0
 | 0,_=>λa b hab hb=>by omega
 | k+1,h=>by
  unfold isortI;have ih:=isort_sort l k (by omega);exact sink_sort (k+1) (k+1) (isortI l k) (Nat.le_refl _) (by rw[isortI_len];exact h) (λa b hab hb ha hbk=>ih a b hab (by omega)) (λb hb1 hb2=>by omega)
theorem isortL_mem (l:List Int) (x:Int):x∈isortL l↔x∈l:=by
 unfold isortL;cases l with
 | nil=>exact Iff.rfl
 | cons y l=>exact isort_mem (y::l) x _ (by simp)
theorem isortL_sort (l:List Int):(isortL l).Pairwise (· <= ·):=by
 rw[List.pairwise_iff_getElem];intro i j hi hj hij;have hl:(isortL l).length=l.length:=isortL_len l;have h:=isort_sort l (l.length-1) (by omega) i j hij (by omega);have h1:(isortL l).getD i 0<=(isortL l).getD j 0:=h
 rwa [List.getD_eq_getElem?_getD,List.getD_eq_getElem?_getD,List.getElem?_eq_getElem hi,List.getElem?_eq_getElem hj]at h1
theorem ded_strict:∀(l:List Int) (p:Int),(p::l).Pairwise (· <= ·)->(p::dedFrom p l).Pairwise (· < ·)/\∀y,y∈p::dedFrom p l↔y∈p::l
 | [],p,_=>⟨by simp[dedFrom],λy=>by simp[dedFrom]⟩
 | x::l,p,h=>by
  have hpx:=List.pairwise_cons.1 h;have hx:=List.pairwise_cons.1 hpx.2;unfold dedFrom
  by_cases e:x=p
  ·rw[if_pos e,e];obtain⟨s1,s2⟩:=ded_strict l p (List.pairwise_cons.2 ⟨λy hy=>hpx.1 y (by simp[hy]),hx.2⟩);refine⟨s1,λy=>?_⟩;rw[s2 y];simp
  ·rw[if_neg e];obtain⟨s1,s2⟩:=ded_strict l x hpx.2;have hlt:p<x:=by have:=hpx.1 x (by simp);omega
   refine⟨List.pairwise_cons.2 ⟨λy hy=>?_,s1⟩,λy=>?_⟩
   ·have hy2:=(s2 y).1 hy;rcases List.mem_cons.1 hy2 with e2 | e2
    ·omega
    ·have:=hx.1 y e2;omega
   ·have:=s2 y;simp only[List.mem_cons]at this ⊢;constructor
    ·rintro(h1 | h1)
     ·exact .inl h1
     ·exact .inr (this.1 h1)
    ·rintro(h1 | h1)
     ·exact .inl h1
     ·exact .inr (this.2 h1)
theorem compact_strict (l:List Int) (h:l.Pairwise (· <= ·)):(compactI l).Pairwise (· < ·)/\∀y,y∈compactI l↔y∈l:=by
 cases l with
 | nil=>exact⟨List.Pairwise.nil,λy=>Iff.rfl⟩
 | cons p l=>exact ded_strict l p h
theorem strict_ext:∀(a b:List Int),a.Pairwise (· < ·)->b.Pairwise (· < ·)->(∀y,y∈a↔y∈b)->a=b
 | [],[],_,_,_=>rfl
 | [],y::b,_,_,h=>by have:=(h y).2 (by simp);simp at this
 | x::a,[],_,_,h=>by have:=(h x).1 (by simp);simp at this
 | x::a,y::b,ha,hb,h=>by
  have ha:=List.pairwise_cons.1 ha;have hb:=List.pairwise_cons.1 hb;have e:x=y:=by
   have h1:=(h x).1 (by simp);have h2:=(h y).2 (by simp);rcases List.mem_cons.1 h1 with e | e
   ·exact e
   ·rcases List.mem_cons.1 h2 with e2 | e2
    ·exact e2.symm
    ·have:=hb.1 x e;have:=ha.1 y e2;omega
  subst e;rw[strict_ext a b ha.2 hb.2 λz=>?_];constructor
  ·intro hz;rcases List.mem_cons.1 ((h z).1 (by simp[hz]))with e | e
   ·subst e;have:=ha.1 z hz;omega
   ·exact e
  ·intro hz;rcases List.mem_cons.1 ((h z).2 (by simp[hz]))with e | e
   ·subst e;have:=hb.1 z hz;omega
   ·exact e
def setL (p:Nat->Bool) (k:Nat):List Int:=((List.range k).filter p).map λm:Nat=>(m:Int)
theorem setL_succ (p:Nat->Bool) (k:Nat):setL p (k+1)=setL p k++(if p k then[(k:Int)]else[]):=by
 unfold setL;rw[List.range_succ,List.filter_append,List.map_append];congr 1;cases h:p k<;>simp[h]
theorem setL_len (p:Nat->Bool) (k:Nat):(setL p k).length<=k:=by
 unfold setL;rw[List.length_map];exact Nat.le_trans (List.length_filter_le _ _) (by simp)
theorem compact_set (l:List Int) (p:Nat->Bool) (hl:∀x∈l,0<=x/\x<256) (hp:∀m,m<256->(p m=true↔(m:Int)∈l)):compactI (isortL l)=setL p 256:=by
 obtain⟨s1,s2⟩:=compact_strict (isortL l) (isortL_sort l);refine strict_ext _ _ s1 ?_ λy=>?_
 ·unfold setL;rw[List.pairwise_map];exact(List.pairwise_lt_range.filter p).imp λh=>by omega
 ·rw[s2,isortL_mem];unfold setL;rw[List.mem_map];constructor
  ·intro hy;obtain⟨m,rfl⟩:=Int.eq_ofNat_of_zero_le (hl y hy).1;have hm:=(hl _ hy).2;exact⟨m,List.mem_filter.2 ⟨List.mem_range.2 (by omega),(hp m (by omega)).2 hy⟩,rfl⟩
  ·rintro⟨m,hm,rfl⟩;obtain⟨h1,h2⟩:=List.mem_filter.1 hm;exact(hp m (List.mem_range.1 h1)).1 h2
end Go.Proofs.YtdocmcapegcoeaaGreat
namespace Go.Proofs.YtdocmcapegcoeaaGreat
open Go Go.RowKit
theorem look_mask {N:Nand} {x y z:Int} (h:(M.look N x y z).2=1):0<=(M.look N x y z).1.mask/\(M.look N x y z).1.mask<256:=by
 unfold M.look at h ⊢;simp only at h ⊢;split at h
 ·rename_i h1;rw[if_pos h1];split at h
  ·cases h
  ·rename_i h2;rw[if_neg h2];have hb:M.bad (S.getV (N.readV x y z)) x y z=false:=by
    cases hb:M.bad (S.getV (N.readV x y z)) x y z with
    | false=>rfl
    | true=>exact absurd (.inr hb) h2
   simp only[M.bad,Bool.or_eq_false_iff,Bool.not_eq_false']at hb;have:=L.has_lt _ _ hb.1.2;exact this.2.2
 ·split at h
  ·cases h
  ·split at h<;>cases h
theorem mk0_bd (N:Nand) (b r:Int) (k:Nat):∀x∈mk0 N b r k,0<=x/\x<256:=by
 intro x hx;unfold mk0 at hx;obtain⟨y,hy,hm⟩:=List.mem_filterMap.1 hx;have hy:=List.mem_of_mem_take hy;unfold M.rowN at hy;obtain⟨d,_,rfl⟩:=List.mem_map.1 hy;unfold M.maskOf at hm;split at hm
 ·rename_i h1;injection hm with hm;subst hm;exact look_mask h1
 ·cases hm
namespace T2
def tab:Tab:=(214,⟨.arr 256 1,256,List.replicate 256 (.bool false),256⟩)::Go.Proofs.YtdocmcapegcoeaaGreat.tab
theorem tk:TabOK Tryz.prog tab:=TabOK.mk (by kernel_rfl)
theorem cellsB_set0 (l:List Bool) (k:Nat) (v:Bool):(cellsB l).set k (.bool v)=cellsB (l.set k v):=by unfold cellsB;rw[List.map_set]
theorem rep_cells:List.replicate 256 (Value.bool false)=cellsB (List.replicate 256 false):=by unfold cellsB;rw[List.map_replicate]
theorem f9_Masks (p:Nat) (N:Nand) (hN:N.Ok) (hR:N.Room) (b r:Int):Fn Tryz.prog 126 [.pointer (some ⟨p,0,none⟩), .int .i64 b, .int .i64 r] [NandA p N]
  (λv As=>∃a c,v=slv a (M.masks N b r).length c/\As=[NandA p N,ownA 3 1 a (M.masks N b r).length c (cellsI (M.masks N b r))]):=by
 have hbd:=hN.bd;obtain⟨pp,hpp⟩:∃pp:Nat->Bool,pp=λ(m:Nat)=>decide (((m:Nat):Int)∈mk0 N b r N.dies):=⟨_,rfl⟩;have hmk:M.masks N b r=setL pp 256:=by
  have e:mk0 N b r N.dies=(M.rowN N b r N.dies).filterMap M.maskOf:=by
   unfold mk0;rw[List.take_of_length_le (by simp[M.rowN])]
  unfold M.masks;rw[<- e];exact compact_set _ pp (mk0_bd N b r N.dies) (λm _=>by rw[hpp];exact decide_eq_true_iff)
 rw[hmk];refine Fn.enter [2,0,0] Tryz.func126 rfl rfl rfl λX F hX=>?_;refine J.turn1 [] rfl (As:=[ownA 3 1 none 0 0 (cellsI (setL pp 0))]) (λh s=>Sep.one ⟨rfl,rfl,rfl⟩) rfl ?_;refine J.r hX tk 400 (λ_=>rfl) λbb=>?_;rw[rep_cells];refine J.r hX tk 400 (λ_=>rfl) λ_=>?_;refine J.lo (α:=(Nat×List Bool)) (λz=>z.1<=N.dies/\z.2.length=256/\∀m,m<256->z.2.getD m false=decide (((m:Nat):Int)∈mk0 N b r z.1)) (λz=>[⟨9, .int .i64 z.1,0, .tt⟩,⟨8, .pointer (some ⟨bb 0,0,none⟩),4, .tt⟩,⟨7, .slice none 0 0,0, .tt⟩,⟨0, .pointer (some ⟨p,0,none⟩),2, .tt⟩,⟨1, .int .i64 b,0, .tt⟩,⟨2, .int .i64 r,0, .tt⟩]) [3] (λz=>[.pt (bb 0) 214 (cellsB z.2)]) (λz=>N.dies-z.1) ((0,List.replicate 256 false)) (⟨Nat.zero_le _,List.length_replicate,λm hm=>by rw[List.getD_eq_getElem?_getD,List.getElem?_replicate,if_pos hm];simp[mk0]⟩) rfl ?_ (λ_=>rfl) λz hI=>?_
 ·rfl
 obtain⟨d,Lb⟩:=z;dsimp only at hI ⊢;obtain⟨hd,hl,hv⟩:=hI;refine J.r hX tk 400 (λ_=>rfl) λ_=>?_;refine J.ca hX (by kernel_rfl) (n_Geo p N) [1] 0 rfl rfl rfl rfl rfl rfl (λ_=>rfl) ?_;rintro v As ⟨rfl,rfl⟩;refine⟨_,rfl,trivial,?_⟩;refine J.r hX tk 400 (λ_=>rfl) λ_=>?_;refine J.cond rfl (λh1=>?_) (λh1=>?_)
 ·simp only[decide_eq_true_eq,Int.ofNat_lt]at h1;have hsc:=mk0_succ N b r d h1;refine J.r hX tk 400 (λ_=>rfl) λ_=>?_;refine J.ca hX (by kernel_rfl) (f9_Look p N hN hR d b r) [1] 0 rfl rfl rfl rfl rfl rfl (λ_=>rfl) ?_;rintro v As ⟨rfl,rfl⟩;refine⟨_,rfl,trivial,?_⟩;have hlm:=look_mask (N:=N) (x:=d) (y:=b) (z:=r);generalize M.look N d b r=x at hsc hlm;obtain⟨s,w⟩:=x;dsimp only at hlm;refine J.r hX tk 400 (λ_=>rfl) λ_=>?_;refine J.cond rfl (λh2=>?_) (λh2=>?_)
  ·simp only[Bool.and_eq_true,beq_iff_eq,decide_eq_true_eq]at h2;obtain⟨⟨hw,hm1⟩,hm2⟩:=h2;obtain⟨m,hm⟩:=Int.eq_ofNat_of_zero_le hm1;have hmk2:mk0 N b r (d+1)=mk0 N b r d++[(m:Int)]:=by
    rw[hsc];unfold M.maskOf;rw[if_pos hw];show _++[s.mask]=_;have:s.mask=(m:Int):=hm;rw[this]
   refine J.r hX tk 400 (λ_=>rfl) λ_=>?_;refine J.store1 hX tk 3 rfl rfl rfl rfl rfl rfl rfl rfl rfl rfl rfl rfl rfl ?_ (cellsB (Lb.set m true)) ?_ rfl (λ_=>rfl) ⟨trivial,?_⟩
   ·rw[cellsB_len,hl];show 0+(s.mask).toNat*1<256;have:s.mask=(m:Int):=hm;omega
   ·rw[<- cellsB_set0];have:s.mask=(m:Int):=hm;rw[show 0+((s,w).fst.mask).toNat*1=m from by show 0+(s.mask).toNat*1=m;omega]
   refine J.r hX tk 400 (λ_=>rfl) λ_=>?_;refine J.nS ((d+1,Lb.set m true)) (⟨by dsimp only;omega,by rw[List.length_set];exact hl,λj hj=>by
    dsimp only;rw[List.getD_eq_getElem?_getD,List.getElem?_set,hl,hmk2];have hm256:m<256:=by
     have:s.mask=(m:Int):=hm;have h3:s.mask<256:=hm2;omega
    by_cases e:m=j
    ·subst e;rw[if_pos rfl,if_pos hm256];simp
    ·rw[if_neg e,<- List.getD_eq_getElem?_getD,hv j hj];have hne:¬(j:Int)=(m:Int):=by omega
     simp[hne]⟩) (by dsimp only;omega) [0,1,2,3] rfl rfl
  ·have hw:w≠1:=λhw=>by
    obtain⟨q1,q2⟩:=hlm hw;have q1:s.mask>=0:=q1;rw[show(s,w).snd=1 from hw,show(s,w).fst=s from rfl,decide_eq_true q1,decide_eq_true q2]at h2;simp at h2
   have hmk2:mk0 N b r (d+1)=mk0 N b r d:=by
    rw[hsc];unfold M.maskOf;rw[if_neg hw];simp
   refine J.r hX tk 400 (λ_=>rfl) λ_=>?_;refine J.nS ((d+1,Lb)) (⟨by dsimp only;omega,hl,λj hj=>by dsimp only;rw[hmk2];exact hv j hj⟩) (by dsimp only;omega) [0,1,2,3] rfl rfl
 simp only[decide_eq_false_iff_not,Int.ofNat_lt]at h1;obtain rfl:d=N.dies:=by omega
 refine J.r hX tk 400 (λ_=>rfl) λ_=>?_;refine J.lo (α:=(Nat×Option Nat×Nat)) (λz=>z.1<=256) (λz=>[⟨44, .int .i64 z.1,0, .tt⟩,⟨8, .pointer (some ⟨bb 0,0,none⟩),4, .tt⟩,⟨7,slv z.2.1 (setL pp z.1).length z.2.2,0, .tt⟩]) [2] (λz=>[ownA 3 1 z.2.1 (setL pp z.1).length z.2.2 (cellsI (setL pp z.1))]) (λz=>256-z.1) ((0,none,0)) (Nat.zero_le _) rfl ?_ (λ_=>rfl) λz hI=>?_
 ·rfl
 obtain⟨k,a,c⟩:=z;dsimp only at hI ⊢;have hsl:=setL_len pp k;have hss:=setL_succ pp k;refine J.r hX tk 400 (λ_=>rfl) λ_=>?_;refine J.cond rfl (λh2=>?_) (λh2=>?_)
 ·simp only[decide_eq_true_eq]at h2;have h2:k<256:=by omega
  have hvk:Lb.getD k false=pp k:=by rw[hv k h2,hpp]
  refine J.r hX tk 400 (λ_=>rfl) λ_=>?_;refine J.val hX (.bool (pp k)) 0 rfl rfl (λhg a w he hw=>load1_run tk rfl rfl he rfl rfl rfl (hw.get (i:=3) rfl) (by rw[show 0+(k:Int).toNat*1=k from by omega,<- hvk];have:=cellsB_at (l:=Lb) [] (k:=k) (by omega);rwa [List.append_nil]at this)) rfl trivial ?_;refine J.r hX tk 400 (λ_=>rfl) λ_=>?_;refine J.cond rfl (λh3=>?_) (λh3=>?_)
  ·rw[if_pos h3]at hss;refine J.r hX tk 400 (λ_=>rfl) λ_=>?_;refine J.append hX tk 2 4 0 rfl rfl rfl rfl rfl rfl rfl rfl rfl rfl rfl rfl rfl rfl rfl rfl ?_ ?_ (λ_=>rfl) λa4 c4=>⟨_,(congrArg (λz=>lset _ 2 (ownA _ _ _ _ _ z)) ((cellsI_snoc _ _).symm.trans (congrArg cellsI hss.symm))).trans rfl,trivial,?_⟩
   ·simp only[maxLen];omega
   ·omega
   rw[show(setL pp k).length+1=(setL pp (k+1)).length from by rw[hss];simp];refine J.r hX tk 400 (λ_=>rfl) λ_=>?_;refine J.nS ((k+1,a4,c4)) (by dsimp only;omega) (by dsimp only;omega) [0,1,2,3] rfl rfl
  ·rw[if_neg (by rw[h3];simp),List.append_nil]at hss;rw[<- hss];refine J.r hX tk 400 (λ_=>rfl) λ_=>?_;refine J.nS ((k+1,a,c)) (by dsimp only;omega) (by dsimp only;omega) [0,1,2,3] rfl rfl
 simp only[decide_eq_false_iff_not]at h2;obtain rfl:k=256:=by omega
 refine J.r hX tk 400 (λ_=>rfl) λ_=>?_;refine J.rt hX tk [1,2] rfl rfl rfl ?_;exact⟨a,c,rfl,rfl⟩
end T2
end Go.Proofs.YtdocmcapegcoeaaGreat
namespace Go.Proofs.YtdocmcapegcoeaaGreat
open Go
structure Nand.Lit (N:Nand):Prop where
 off:N.off=false
 cuts:N.cuts=false
namespace Nand
theorem Lit.cutB {N:Nand} (h:N.Lit):N.cutB=false:=by unfold Nand.cutB;rw[h.cuts];rfl
theorem Lit.cutN {N:Nand} (h:N.Lit):N.cutN.Lit:=by
 constructor
 ·show(if N.cutB then true else N.off)=false;rw[h.cutB];exact h.off
 ·show(if N.cutB then false else N.cuts)=false;rw[h.cutB];exact h.cuts
theorem Lit.new (d b p:Nat):(Nand.new d b p).Lit:=⟨rfl,rfl⟩
theorem Lit.prog {N:Nand} (h:N.Lit) (x y z:Int) (pg:List UInt8):(N.progN x y z pg).Lit:=by
 unfold Nand.progN;split
 ·exact h
 ·split
  ·exact⟨h.off,h.cuts⟩
  ·rw[h.cutB];exact⟨h.cutN.off,h.cutN.cuts⟩
end Nand
end Go.Proofs.YtdocmcapegcoeaaGreat
namespace Go.Proofs.YtdocmcapegcoeaaGreat
open Go Go.RowKit
theorem flat_get {α:Type} (f:α->List Value) (w:Nat) (hw:∀x,(f x).length=w):∀(l:List α) (k:Nat) (x:α),l[k]? =some x->((l.flatMap f).drop (k*w)).take w=f x
 | [],k,x,h=>by simp at h
 | y::l,0,x,h=>by
  simp at h;subst h;rw[List.flatMap_cons,Nat.zero_mul,List.drop_zero,List.take_left' (hw y)]
 | y::l,k+1,x,h=>by
  have ih:=flat_get f w hw l k x (by simpa using h);rw[List.flatMap_cons,show(k+1)*w=(f y).length+k*w from by rw[hw y,Nat.add_mul,Nat.one_mul,Nat.add_comm],<- List.drop_drop,List.drop_left' rfl];exact ih
end Go.Proofs.YtdocmcapegcoeaaGreat
namespace Go.Proofs.YtdocmcapegcoeaaGreat
open Go Go.RowKit
open Go.ChangeShapes Go.WideShapes
def frz (W:World):Atom:= .hp ⟨Hle (hl W),λ_ _ l s=>s.trans l⟩
theorem Fn.whole {P:Program} {f:FuncId} {args:List Value} {r:Value} {W:World} (h:Fn P f args [frz W] (λv As=>v=r/\As=[frz W])):Calls P f args.toArray W λe w'=>e= .returned r/\Below W.heap.size W w':=by
 have hs:Sep (.hp ⟨λ_=>True,λ_ _ _ s=>s⟩::[frz W]) (hl W):=by
  refine⟨λ_=>1,λi A hA=>?_⟩
  match i,hA with
  | 0,hA=>simp at hA;subst hA;trivial
  | 1,hA=>
   simp at hA;subst hA;intro b o hb;exact res_some.2 ⟨rfl,hb⟩
  | i+2,hA=>simp at hA
 refine(h _ W hs).mono λe w' ⟨v,As,e1,⟨e2,e3⟩,s,x⟩=>?_;subst e2 e3;have hle:Hle (hl W) (hl w'):=s.get (i:=1) rfl;refine⟨e1,x.os,x.tape,x.output,x.size,λk hk=>?_⟩;have:W.heap[k]? =some W.heap[k]:=Array.getElem?_eq_getElem hk;rw[this];exact hle k _ this
section
variable {H : Type} {enc : TypeId × Value → H} {w : World} {base : Nat} {spare : Nat → Bool} {held : Bool}
theorem one_i64 {t:TypeId} (ht:Tryz.prog.underlying t=some (.int .i64)) {fuel:Nat} {cs:List Value} {y:DataW H×List MemPlace} (h:DataW.trod enc Tryz.prog w base spare held fuel t cs=some y):∃n,cs=[.int .i64 n]:=by
 obtain⟨n,rfl,_,_⟩:=DataW.trod_int ht h;exact⟨n,rfl⟩
end
end Go.Proofs.YtdocmcapegcoeaaGreat
namespace Go.Proofs.YtdocmcapegcoeaaGreat
open Go Go.RowKit
open Go.ChangeShapes Go.WideShapes Go.ChangeAt
section
variable {H : Type} {enc : TypeId × Value → H} {w : World} {base : Nat} {spare : Nat → Bool} {held : Bool}
end
end Go.Proofs.YtdocmcapegcoeaaGreat
namespace Go.Proofs.YtdocmcapegcoeaaGreat
open Go Go.RowKit
open Go.ChangeShapes Go.WideShapes Go.ChangeAt
section
variable {H : Type} {enc : TypeId × Value → H} {w : World} {base : Nat} {spare : Nat → Bool} {held : Bool}
end
end Go.Proofs.YtdocmcapegcoeaaGreat
