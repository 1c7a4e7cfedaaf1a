/- Helpers, proved here. No condition. -/
import Derived.Test.YtdocmcapegcoeaaGreatA02
import Derived.Test.YtdocmcapegcoeaaGreatA06
import Derived.Test.YtdocmcapegcoeaaGreatA11
import Derived.Test.YtdocmcapegcoeaaGreatA12
import Derived.Test.YtdocmcapegcoeaaGreatA14
import Derived.Test.YtdocmcapegcoeaaGreatA15
import Derived.Test.YtdocmcapegcoeaaGreatA16
import Derived.Test.YtdocmcapegcoeaaGreatA18
import Derived.Test.YtdocmcapegcoeaaGreatA19
import Derived.Test.YtdocmcapegcoeaaGreatA20
import Derived.Test.YtdocmcapegcoeaaGreatA21
import Derived.Test.YtdocmcapegcoeaaGreatA22
import Derived.Test.YtdocmcapegcoeaaGreatA23
import Derived.Test.YtdocmcapegcoeaaGreatRows
import Derived.ProofKit
import Derived.OpenShut
import Derived.ChangeOld
import Derived.Below
import Derived.Deep.Slices
import Derived.Deep.Strs
import Derived.Lib.SmallJoins
set_option maxRecDepth 20000
set_option linter.all false
namespace Go.Proofs.YtdocmcapegcoeaaGreat
open Go Go.RowKit
theorem dI_count (m:Int):(dI m).length=L.count m:=by
 rw[<- L.below_eight m,dI,dsk,List.length_map,L.below];refine congrArg List.length (List.filter_congr λd hd=>?_);rw[List.mem_range]at hd;simp[hd]
theorem leavesD:leaves Tryz.prog 100 36=some lvD:=by kernel_rfl
theorem mkD (zs:List Value):mkV Tryz.prog 36 zs= .agg zs.toArray:=by simp[mkV,Tryz.underlying36]
theorem gdD:Tryz.prog.eqGuardType Tryz.prog.depth 36=false:=by kernel_rfl
def f9out (s:Sh):Bool:=((((((((((s.kind !=1)&&(s.kind !=2))||decide (s.block<0))||decide (s.block>=16))||decide (s.row<0))||decide (s.row>=8))||decide ((L.count s.mask:Int)<2))||decide (s.seq<0))||decide (s.seq>1099511627775))||decide (s.lpn<0))||decide (s.lpn>65535)
theorem may_out (s:Sh) (h:f9out s=true):S.may s=false:=by
 rw[Bool.eq_false_iff];intro hm;simp only[S.may,S.place,S.numbers,S.inB,Bool.and_eq_true,Bool.or_eq_true,decide_eq_true_eq]at hm;simp only[f9out,Bool.and_eq_true,Bool.or_eq_true,decide_eq_true_eq,bne_iff_ne,ne_eq]at h;omega
theorem may_par (s:Sh) (h:f9out s=false) (hk:s.kind=2):S.may s=(decide (s.role>=0)&&decide (s.role<=255)):=by
 simp only[f9out,Bool.and_eq_false_iff,Bool.or_eq_false_iff,decide_eq_false_iff_not,bne_eq_false_iff_eq]at h;simp only[S.may,S.place,S.numbers,S.inB];rw[decide_eq_true (show 0<=s.block by omega),decide_eq_true (show s.block<=15 by omega),decide_eq_true (show 0<=s.row by omega),decide_eq_true (show s.row<=7 by omega),decide_eq_true (show 2<=L.count s.mask by omega),decide_eq_true (show 0<=s.seq by omega),decide_eq_true (show s.seq<=1099511627775 by omega),decide_eq_true (show 0<=s.lpn by omega),decide_eq_true (show s.lpn<=65535 by omega),decide_eq_true hk];simp
theorem may_own (s:Sh) (h:f9out s=false) (hk:s.kind≠2):S.may s=S.entry s:=by
 simp only[f9out,Bool.and_eq_false_iff,Bool.or_eq_false_iff,decide_eq_false_iff_not,bne_eq_false_iff_eq]at h;have h1:s.kind=1:=by omega
 have hr:S.entry s=true->0<=s.role/\s.role<=255:=by
  intro he;unfold S.entry at he;split at he
  ·omega
  ·split at he
   ·omega
   ·split at he
    ·omega
    ·cases he
 simp only[S.may,S.place,S.numbers,S.inB];rw[decide_eq_true (show 0<=s.block by omega),decide_eq_true (show s.block<=15 by omega),decide_eq_true (show 0<=s.row by omega),decide_eq_true (show s.row<=7 by omega),decide_eq_true (show 2<=L.count s.mask by omega),decide_eq_true (show 0<=s.seq by omega),decide_eq_true (show s.seq<=1099511627775 by omega),decide_eq_true (show 0<=s.lpn by omega),decide_eq_true (show s.lpn<=65535 by omega),decide_eq_true h1,decide_eq_false hk];cases he:S.entry s
 ·simp
 ·have:=hr he;rw[decide_eq_true this.1,decide_eq_true this.2];rfl
theorem f9_May (s:Sh) (h:s.data.length=16):Fn Tryz.prog 166 [shV s] [] (λv As=>v= .bool (S.may s)/\As=[]):=by
 refine Fn.enter [0] Tryz.func166 rfl rfl rfl λX F hX=>?_;refine J.run hX tk 400 (λb1=>rfl) (λb1=>?_) (λb1=>?_)
 ·(repeat' (first | exact Conj.nil | refine Conj.cons ?_ ?_ | exact rfl | exact hq | (rw[hq];rfl) | (rw[(Bool.not_eq_true' _).mp hq]) | intro hq | omega | (simp;done)))
 refine J.gcase hX rfl rfl rfl trivial (λhb=>?_) (λhb=>?_)
 ·have hb2:=(Bool.not_eq_true' _).mp hb;rw[hb2];refine J.q hX λ_=>?_;refine J.cb hX (f1_Dies s.mask) [] ?_;rintro v As ⟨a,c,rfl,rfl⟩;refine⟨_,rfl,trivial,?_⟩;rw[dI_count];refine J.run hX tk 400 (λb3=>rfl) (λb3=>?_) (λb3=>?_)
  ·(repeat' (first | exact Conj.nil | refine Conj.cons ?_ ?_ | exact rfl | exact hq | (rw[hq];rfl) | (rw[(Bool.not_eq_true' _).mp hq]) | intro hq | omega | (simp;done)))
  refine J.q hX λ_=>?_;refine J.cond rfl (λh3=>?_) (λh3=>?_)
  ·have ho:f9out s=true:=by unfold f9out;rw[hb2];exact h3
   refine J.q hX λ_=>?_;refine J.ru hX [] ?_;exact⟨by rw[may_out s ho],rfl⟩
  have ho:f9out s=false:=by unfold f9out;rw[hb2];exact h3
  refine J.q hX λ_=>?_;refine J.cond rfl (λh4=>?_) (λh4=>?_)
  ·simp only[beq_iff_eq]at h4;refine J.q hX λ_=>?_;refine J.ru hX [] ?_;exact⟨by rw[may_par s ho h4],rfl⟩
  simp only[beq_eq_false_iff_ne,ne_eq]at h4;have key:∀b,S.entry s=b->S.may s=b:=λb hb=>(may_own s ho h4).trans hb;refine J.q hX λ_=>?_;refine J.val hX (.bool (decide (s.data=zeros16))) 0 rfl rfl (λhg a w he hs=>?_) rfl trivial ?_
  ·rw[<- eqD s.data zeros16 h rfl];exact eqAgg_run (xs:=dataC s.data) (ys:=dataC zeros16) rfl rfl rfl he rfl rfl leavesD (fitsD _) (fitsD _) mkD gdD
  refine J.q hX λ_=>?_;refine J.cond rfl (λh5=>?_) (λh5=>?_)
  ·simp only[beq_iff_eq]at h5;refine J.q hX λ_=>?_;refine J.ru hX [] ?_;exact⟨by rw[key true (by unfold S.entry;rw[if_pos h5])],rfl⟩
  simp only[beq_eq_false_iff_ne,ne_eq]at h5;have k2:s.role=2\/s.role=4->S.may s=decide (s.data=zeros16):=λhr=>key _ (by unfold S.entry;rw[if_neg h5,if_pos hr]);refine J.q hX λ_=>?_;refine J.cond rfl (λh6=>?_) (λh6=>?_)
  ·have h6':=h6;simp only[beq_iff_eq]at h6';rw[h6];refine J.q hX λ_=>?_;refine J.cT ?_;refine J.q hX λ_=>?_;refine J.ru hX [] ?_;exact⟨by rw[k2 (.inl h6')],rfl⟩
  ·have h6':=h6;simp only[beq_eq_false_iff_ne,ne_eq]at h6';refine J.q hX λ_=>?_;refine J.cond rfl (λh7=>?_) (λh7=>?_)
   ·have h7':=h7;simp only[beq_iff_eq]at h7';refine J.q hX λ_=>?_;refine J.ru hX [] ?_;exact⟨by rw[k2 (.inr h7')],rfl⟩
   have h7':=h7;simp only[beq_eq_false_iff_ne,ne_eq]at h7';refine J.q hX λ_=>?_;refine J.cond rfl (λh8=>?_) (λh8=>?_)
   ·have h8':=h8;simp only[beq_iff_eq]at h8';refine J.run hX tk 400 (λb17=>rfl) (λb17=>?_) (λb17=>?_)
    ·(repeat' (first | exact Conj.nil | refine Conj.cons ?_ ?_ | exact rfl | exact hq | (rw[hq];rfl) | (rw[(Bool.not_eq_true' _).mp hq]) | intro hq | omega | (simp;done)))
    refine J.q hX λ_=>?_;refine J.ru hX [] ?_;exact⟨by rw[key _ (by unfold S.entry;rw[if_neg h5,if_neg (by omega),if_pos h8'])];rfl,rfl⟩
   ·have h8':=h8;simp only[beq_eq_false_iff_ne,ne_eq]at h8';refine J.q hX λ_=>?_;refine J.ru hX [] ?_;exact⟨by rw[key false (by unfold S.entry;rw[if_neg h5,if_neg (by omega),if_neg h8'])],rfl⟩
 ·have hb2:=(Bool.not_eq_false' _).mp hb;rw[hb2];refine J.q hX λ_=>?_;refine J.val hX (.int .i64 0) 0 rfl rfl (λhg a w he hw=>by simp[G.on]at hg) rfl trivial ?_;refine J.run hX tk 400 (λb21=>rfl) (λb21=>?_) (λb21=>?_)
  ·(repeat' (first | exact Conj.nil | refine Conj.cons ?_ ?_ | exact rfl | exact hq | (exact Bool.noConfusion hq) | (rw[hq];rfl) | (rw[(Bool.not_eq_true' _).mp hq]) | intro hq | omega | (simp;done)))
  refine J.q hX λ_=>?_;refine J.cT ?_;have ho:f9out s=true:=by unfold f9out;rw[hb2];rfl
  refine J.q hX λ_=>?_;refine J.ru hX [] ?_;exact⟨by rw[may_out s ho],rfl⟩
theorem hl_setRow {w:World} {g:Nat} {cur cs:Array Value} {t:TypeId} (h:w.heap[g]? =some (.cells cur t (0,0))):hl (w.setRow g cs)=hset (hl w) g (.cells cs t (0,0)):=by
 funext x;unfold hset
 by_cases e:x=g
 ·subst e;rw[if_pos rfl];exact setRow_heap w x cur cs t _ h
 ·rw[if_neg e];exact setRow_other w g x _ e
section
variable {X : Cx} {P : Program} {T : Tab} {K : List KI} {E : Env} {L : List Atom} {N : Nat} {F : HP} {Post : Value → List Atom → Prop} {rs : List ResultVar}
theorem J.copy (hX:IsCx X P rs N F Post) (hT:TabOK P T) {ops:Array Oper} {C:Cl} {lt:Bool} {i:Nat} {t:PT} {o:Oper} {g:G} {x y:Operand} {dT sT e by_:Nat} {kx tx ky ty:Nat} {gx gy:G} {b off dl dc b2 oo sl sc tb:Nat} {old xs:List Value} {s1 b1:Nat} {z1:List Value} {E':Value->Env} {Ay:Atom} (is iy:Nat)
  (ho:lget ops.toList i=some o) (hg:gd ops.toList E o=some g) (hgo:g.on=true) (hop:o.op= .call ⟨.builtin .copy,#[x,y],#[dT,sT]⟩)
  (hx:ev E x=some ⟨kx, .slice (some ⟨b,off,none⟩) dl dc,tx,gx⟩) (hvx:gx.on=true) (hy:ev E y=some ⟨ky, .slice (some ⟨b2,oo,none⟩) sl sc,ty,gy⟩) (hvy:gy.on=true)
  (hLx:lget L is=some (.pt b tb old)) (hLy:lget L iy=some Ay) (hrd:Rd Ay (some ⟨b2,oo,none⟩) 1 sl xs) (hst:T.get dT=some ⟨.slice e 1,s1,z1,b1⟩) {td:TD} {z:List Value} (he:T.get e=some ⟨td,1,z,by_⟩)
  (cs:List Value) (hcs:xs.take (Nat.min sl dl)=cs) (hlt:off+cs.length<=old.length) (h1:∀u∈xs,u.oneCell'=true) (cs':List Value) (hcs':old.take off++cs++old.drop (off+cs.length)=cs') {L2:List Atom} (hL2:lset L is (.pt b tb cs')=some L2)
  (hd:∀v,putE N o.dst v 0 .tt E=some (E' v)) (hJ:Conj (staysL lt C L2)/\J X (.reg ops C t::K) (E' (goInt cs.length)) L2):J X (.reg ops C (.alt lt i t .non)::K) E L:=by
 refine J.op hX (S:=λv' L'=>v'=goInt cs.length/\L'=L.set is (.pt b tb cs')) 0 ho hg hgo (λa0 w hen hs=>?_) hd (λv L' ⟨e1,e2⟩=>by subst e1;subst e2;rw[<- lset_eq hL2];exact hJ);rw[lget_eq]at hLx hLy;have ex:=ev_spec hen hx;have ey:=ev_spec hen hy;simp only[Slot.val,hvx,hvy]at ex ey;obtain⟨d,f,zv,ok⟩:=tiOf_spec (hT.get hst);obtain⟨fe,rfl,g1,g2⟩:=ok.slice rfl;have hblk:Blk w b tb old.toArray:=hs.pt hLx;have hrd2:=hrd _ (hs.get hLy);have hxl:xs.length=sl:=by rw[hrd2.1,Nat.mul_one]
 have hn:cs.length=Nat.min sl dl:=by
  rw[<- hcs,List.length_take,hxl];exact Nat.min_eq_left (Nat.min_le_left sl dl)
 have hsrc:∀j v,cs[j]? =some v->w.cell? ((⟨b2,oo,none⟩:Addr).add j)=some v:=λj u hu=>by
  have hj:j<cs.length:=(List.getElem?_eq_some_iff.1 hu).1;rw[<- hcs,List.getElem?_take]at hu;split at hu
  ·rw[Addr.add_none];refine rd_cell hrd2 ?_ hu;have:=(List.getElem?_eq_some_iff.1 hu).1;omega
  ·cases hu
 have h1':∀v∈cs,v.oneCell'=true:=λv hv=>h1 v (by rw[<- hcs]at hv;exact List.mem_of_mem_take hv);have hsz:(P.info? e).map (·.size)=some 1:=by rw[g1];exact congrArg some g2
 have hrun:=run_copy_row (P:=P) w dT sT o.type e b off dl dc ⟨b2,oo,none⟩ sl sc old.toArray tb cs ok.hd hsz hblk hn hsrc (by simpa using hlt) h1';have harr:(old.toArray.toList.take off++cs++old.toArray.toList.drop (off+cs.length)).toArray=cs'.toArray:=congrArg List.toArray hcs';rw[harr]at hrun;refine⟨_,_, .value (goInt cs.length),w.setRow b cs'.toArray,⟨rfl,rfl⟩,?_, .inl rfl,?_,Ext.grown (grown_setRow w b _)⟩
 ·simp only[execOp,hop,resolve,Sem.run_bind,Sem.run_pure,Result.andThen_ok,invoke,builtin,List.map_toArray,List.map_cons,List.map_nil,ex,ey,hrun]
 ·rw[hl_setRow hblk];exact hs.setPt cs' hLx
end
theorem f9_field (p:List UInt8) (hp:p.length=32) (fr w:Nat) (h:fr+w<=256) (hw:1<=w/\w<=64):Fn Tryz.prog 197 [pgV p, .int .i64 fr, .int .i64 w] [] (λv As=>v= .int .u64 (Bt.numAt p fr w)/\As=[]):=by
 have hnum:=Bt.numAt_num p fr w (by omega);have hul:=Bt.length_unpack p;refine Fn.enter [0,0,0] Tryz.func197 rfl rfl rfl λX F hX=>?_;refine J.q hX λbb=>?_;refine J.ca hX (by kernel_rfl) (f1_Of (.pt (bb 0) 118 (pageC p)) (some ⟨bb 0,0,none⟩) 32 32 p (by rw[<- pageC_eq p hp];exact pt_rd _ _ _ 1 32 rfl) hp (by decide)) [1] 0 rfl rfl rfl rfl rfl rfl (λ_=>rfl) ?_;rintro v As ⟨a,c,rfl,rfl⟩;refine⟨_,rfl,trivial,?_⟩;refine J.know (λh' s=>own_some (c:=(a,c)) (by omega) (s.get (i:=2) rfl)) λhg=>?_;obtain⟨g,rfl⟩:=hg;refine J.know (p:=32*8<=c) (λh' s=>by
  obtain⟨_,cur,h1,h2,_⟩:=s.get (i:=2) rfl;exact h2) λhc=>?_
 have hRd:Rd (ownA 4 1 (some g) (32*8) c (cellsB (Bt.unpack p))) (some ⟨g,0+fr*1,none⟩) 1 w (cellsB (((Bt.unpack p).drop fr).take w)):=by
  have:=((own_rd 4 1 (some g) (32*8) c (cellsB (Bt.unpack p))).drop fr (by omega)).take w (by omega);rw[cellsB_take,cellsB_drop];rw[Nat.mul_one]at this ⊢
  rwa [Nat.mul_one]at this
 refine J.q hX λ_=>?_;rw[show((fr:Int)+(w:Int)).toNat-(fr:Int).toNat=w from by omega,show(fr:Int).toNat=fr from by omega];refine J.q hX λ_=>?_;refine J.cb hX (f1_Num (ownA 4 1 (some g) (32*8) c (cellsB (Bt.unpack p))) (some ⟨g,0+fr*1,none⟩) w (c-fr) (((Bt.unpack p).drop fr).take w) hRd (by rw[List.length_take,List.length_drop];omega) (by omega)) [2] ?_;refine cpq ⟨_,rfl,trivial,?_⟩;rw[hnum];refine J.q hX λ_=>?_;exact J.ru hX [] ⟨rfl,rfl⟩
theorem f9_Get (p:List UInt8) (hp:p.length=32):Fn Tryz.prog 164 [pgV p] [] (λv As=>v= .tuple #[shV (S.getV p), .bool (S.get p).isSome]/\As=[]):=by
 obtain⟨r1,r2,r3⟩:=S.field_role p hp;obtain⟨r4,r5,r6,r7⟩:=S.field_rest p hp;have w1:=Bt.numAt_lt p 128 8;have w2:=Bt.numAt_lt p 136 16;have w3:=Bt.numAt_lt p 152 40;have w4:=Bt.numAt_lt p 192 8;have w5:=Bt.numAt_lt p 200 8;have w6:=Bt.numAt_lt p 208 8;have w7:=Bt.numAt_lt p 216 8;have w8:=Bt.numAt_lt p 224 32;rw[show(2:Nat)^8=256 from rfl]at w1 w4 w5 w6 w7;rw[show(2:Nat)^16=65536 from rfl]at w2;rw[show(2:Nat)^40=1099511627776 from rfl]at w3;rw[show(2:Nat)^32=4294967296 from rfl]at w8;refine Fn.enter [0] Tryz.func164 rfl rfl rfl λX F hX=>?_;have hpl:(p.take 16).length=16:=by rw[List.length_take,hp];rfl
 have hpc:(pageC p).take 16=dataC (p.take 16):=by rw[pageC_eq p hp,dataC_eq _ hpl,List.map_take]
 have hone:∀u∈pageC p,u.oneCell'=true:=by
  rw[pageC_eq p hp];intro u hu;obtain⟨b,_,rfl⟩:=List.mem_map.1 hu;rfl
 have hsum:K.sum (p.take 28)<4294967296:=K.sum_lt _;refine J.q hX λbb=>?_;refine J.plan (.of [0,4,8,14]) [] [1] (by rw[hX.hP];kernel_rfl) (by kernel_rfl) ?_;refine J.q hX λ_=>?_;have hRd:∀k,k<=32->Rd (.pt (bb 0) 118 (pageC p)) (some ⟨bb 0,0+0*1,none⟩) 1 k ((pageC p).take k):=λk hk=>by
  have:=(pt_rd (bb 0) 118 (pageC p) 1 32 rfl).take k hk
  rwa [Nat.mul_one]at this
 refine J.copy hX tk 3 1 rfl rfl rfl rfl rfl rfl rfl rfl rfl rfl (hRd 16 (by decide)) rfl rfl (dataC (p.take 16)) (by rw[<- hpc];exact List.take_of_length_le (Nat.le_refl _)) (Nat.le_of_ble_eq_true rfl) (λu hu=>hone u (List.mem_of_mem_take hu)) (shL ⟨p.take 16,0,0,0,0,0,0,0⟩) rfl rfl (λ_=>rfl) ⟨⟨rfl,trivial⟩,?_⟩;refine J.q hX λ_=>?_;refine J.plan (.of [1,13,25,6,8,18,20,30,32,36,42,44,50,52,59]) [13,14] [1] (by rw[hX.hP];kernel_rfl) (by kernel_rfl) ?_;refine J.q hX λ_=>?_;refine J.cb hX (f9_field p hp 128 8 (by omega) (by omega)) [] ?_;refine cpq ⟨_,rfl,⟨rfl,trivial⟩,?_⟩;refine J.q hX λ_=>?_;refine J.cb hX (f9_field p hp 136 16 (by omega) (by omega)) [] ?_;refine cpq ⟨_,rfl,⟨rfl,trivial⟩,?_⟩;refine J.q hX λ_=>?_;refine J.cb hX (f9_field p hp 152 40 (by omega) (by omega)) [] ?_;refine cpq ⟨_,rfl,⟨rfl,trivial⟩,?_⟩;refine J.q hX λ_=>?_;refine J.plan (.of [1,13,25,37,6,8,18,20,30,32,42,44,48,54,56,62,64,70,72,79]) [18,19] [1] (by rw[hX.hP];kernel_rfl) (by kernel_rfl) ?_;refine J.q hX λ_=>?_;refine J.cb hX (f9_field p hp 192 8 (by omega) (by omega)) [] ?_;refine cpq ⟨_,rfl,⟨rfl,trivial⟩,?_⟩;refine J.q hX λ_=>?_;refine J.cb hX (f9_field p hp 200 8 (by omega) (by omega)) [] ?_;refine cpq ⟨_,rfl,⟨rfl,trivial⟩,?_⟩;refine J.q hX λ_=>?_;refine J.cb hX (f9_field p hp 208 8 (by omega) (by omega)) [] ?_;refine cpq ⟨_,rfl,⟨rfl,trivial⟩,?_⟩;refine J.q hX λ_=>?_;refine J.cb hX (f9_field p hp 216 8 (by omega) (by omega)) [] ?_;refine cpq ⟨_,rfl,⟨rfl,trivial⟩,?_⟩;have hsf:(⟨p.take 16,(Bt.numAt p 128 8:Nat),(Bt.numAt p 136 16:Nat),(Bt.numAt p 152 40:Nat),(Bt.numAt p 216 8:Nat),(Bt.numAt p 192 8:Nat),(Bt.numAt p 200 8:Nat),(Bt.numAt p 208 8:Nat)⟩:Sh)=S.fields p:=by
  rw[<- r1,<- r2,<- r3,<- r4,<- r5,<- r6,<- r7];rfl
 have hmayc:=f9_May ⟨p.take 16,(Bt.numAt p 128 8:Nat),(Bt.numAt p 136 16:Nat),(Bt.numAt p 152 40:Nat),(Bt.numAt p 216 8:Nat),(Bt.numAt p 192 8:Nat),(Bt.numAt p 200 8:Nat),(Bt.numAt p 208 8:Nat)⟩ hpl;have hget:=S.get_some p hp;refine J.q hX λ_=>?_;refine J.plan (.of [1,12,6,8,18,20,24,29,34,36,40]) [] [1,3] (by rw[hX.hP];kernel_rfl) (by kernel_rfl) ?_;refine J.q hX λ_=>?_;refine J.cb hX (f9_field p hp 224 32 (by omega) (by omega)) [] ?_;refine cpq ⟨_,rfl,⟨rfl,rfl,trivial⟩,?_⟩;refine J.q hX λ_=>?_;refine J.cb hX (f1_Sum (.pt (bb 0) 118 (pageC p)) (some ⟨bb 0,0+0*1,none⟩) 28 32 (p.take 28) (by rw[List.map_take,<- pageC_eq p hp];exact hRd 28 (by decide)) (by rw[List.length_take,hp];rfl) (by decide)) [1] ?_;refine cpq ⟨_,rfl,⟨rfl,rfl,trivial⟩,?_⟩;refine J.q hX λ_=>?_;refine J.gcase hX rfl rfl rfl ⟨rfl,rfl,trivial⟩ (λhb=>?_) (λhb=>?_)
 ·have hb2:(((Bt.numAt p 224 32:Nat):Int) !=((K.sum (p.take 28):Nat):Int))=false:=by simpa using hb
  rw[hb2];refine J.q hX λ_=>?_;refine J.cb hX (hmayc) [] ?_;refine cpq ⟨_,rfl,⟨rfl,rfl,trivial⟩,?_⟩;rw[hsf];have heq:Bt.numAt p 224 32=K.sum (p.take 28):=by
   simp only[Bool.not_eq_true',bne_eq_false_iff_eq]at hb;omega
  refine J.q hX λ_=>?_;refine J.cond rfl (λh1=>?_) (λh1=>?_)
  ·have hg:S.get p=none:=by
    rw[hget,if_neg];rintro⟨_,hm⟩;rw[hm]at h1;simp at h1
   refine J.q hX λ_=>?_;refine J.ru hX [] ?_;exact⟨by unfold S.getV;rw[hg];rfl,rfl⟩
  ·have hg:S.get p=some (S.fields p):=by
    rw[hget,if_pos];refine⟨heq,?_⟩;cases hm:S.may (S.fields p)with
    | true=>rfl
    | false=>rw[hm]at h1;simp at h1
   refine J.q hX λ_=>?_;refine J.ru hX [] ?_;exact⟨by unfold S.getV;rw[hg,Option.getD_some,<- hsf];rfl,rfl⟩
 ·have hb2:(((Bt.numAt p 224 32:Nat):Int) !=((K.sum (p.take 28):Nat):Int))=true:=by simpa using hb
  rw[hb2];have hne:Bt.numAt p 224 32≠K.sum (p.take 28):=by
   simp only[Bool.not_eq_false',bne_iff_ne,ne_eq]at hb;omega
  have hg:S.get p=none:=by
   rw[hget,if_neg];exactλh=>hne h.1
  refine J.q hX λ_=>?_;refine J.valT hX (.bool false) 0 rfl rfl (λhg a w he hC=>by simp[G.on]at hg) rfl ?_;refine J.q hX λ_=>?_;refine J.cond rfl (λh1=>?_) (λh1=>?_)
  ·refine J.q hX λ_=>?_;refine J.ru hX [] ?_;exact⟨by unfold S.getV;rw[hg];rfl,rfl⟩
  ·simp at h1
theorem f9_Own (b r m:Int) (e:En) (h:e.data.length=16):Fn Tryz.prog 168 [.int .i64 b, .int .i64 r, .int .i64 m,enV e] [] (λv As=>v= .tuple #[shV (W.own b r m e), .bool (W.ok b r m e)]/\As=[]):=by
 refine Fn.enter [0,0,0,0] Tryz.func168 rfl rfl rfl λX F hX=>?_;refine J.q hX λ_=>?_;refine J.cb hX (f9_May (W.sh b r m e) h) [] ?_;refine cpq ⟨_,rfl,trivial,?_⟩;refine J.q hX λ_=>?_;refine J.cond rfl (λh1=>?_) (λh1=>?_)
 ·simp only[Bool.not_eq_true']at h1;refine J.q hX λ_=>?_;refine J.ru hX [] ?_;exact⟨by rw[W.own,W.ok,h1];rfl,rfl⟩
 ·simp only[Bool.not_eq_false']at h1;refine J.q hX λ_=>?_;refine J.ru hX [] ?_;exact⟨by rw[W.own,W.ok,h1];rfl,rfl⟩
namespace F9
def xo (m n:Int):Int:=IntKind.i64.wrap ((BitVec.ofInt IntKind.i64.bits m ^^^ BitVec.ofInt IntKind.i64.bits n).toNat:Int)
def mixS (a b:Sh) (k:Nat):Sh:=⟨W.mix a.data b.data k,a.role,a.lpn,a.seq,a.kind,a.block,a.row,a.mask⟩
def over (a b:Sh):Sh:=⟨W.mix a.data b.data 16,xo a.role b.role,xo a.lpn b.lpn,xo a.seq b.seq,a.kind,a.block,a.row,a.mask⟩
end F9
theorem shL_get {s:Sh} (h:s.data.length=16) {k:Nat} (hk:k<16):(shL s)[k]? =some (bv (s.data.getD k 0)):=by
 have e:shL s=dataC s.data++[.int .i64 s.role, .int .i64 s.lpn, .int .i64 s.seq, .int .i64 s.kind, .int .i64 s.block, .int .i64 s.row, .int .i64 s.mask]:=rfl;rw[e,List.getElem?_append_left (by show k<16;exact hk),dataC_get h hk]
theorem shL_set {a b:Sh} (ha:a.data.length=16) (hb:b.data.length=16) {k:Nat} (hk:k<16):(shL (F9.mixS a b k)).set k (bv (a.data.getD k 0 ^^^ b.data.getD k 0))=shL (F9.mixS a b (k+1)):=by
 have e:∀s:Sh,shL s=dataC s.data++[.int .i64 s.role, .int .i64 s.lpn, .int .i64 s.seq, .int .i64 s.kind, .int .i64 s.block, .int .i64 s.row, .int .i64 s.mask]:=λs=>rfl;rw[e,e,List.set_append_left _ _ (by show k<16;exact hk)];show(dataC (W.mix a.data b.data k)).set k _++_=dataC (W.mix a.data b.data (k+1))++_;rw[dataC_set (mix_len ha hb k (by omega)),mix_set ha hb hk];rfl
theorem f9_over (a b:Sh) (ha:a.data.length=16) (hb:b.data.length=16):Fn Tryz.prog 167 [shV a,shV b] [] (λv As=>v=shV (F9.over a b)/\As=[]):=by
 refine Fn.enter [0,0] Tryz.func167 rfl rfl rfl λX F hX=>?_;refine J.q hX λbb=>?_;refine J.lo (α:=Nat) (λi=>i<=16) (λi=>[⟨5, .int .i64 i,0, .tt⟩,⟨2, .pointer (some ⟨bb 0,0,none⟩),2, .tt⟩,⟨3, .pointer (some ⟨bb (0+1),0,none⟩),3, .tt⟩,⟨4, .pointer (some ⟨bb (0+1+1),0,none⟩),4, .tt⟩]) [1] (λi=>[.pt (bb 0) 132 (shL (F9.mixS a b i))]) (λi=>16-i) (0) (Nat.zero_le _) rfl ?_ (λ_=>rfl) λi hI=>?_
 ·rw[show F9.mixS a b 0=a from by simp[F9.mixS,W.mix]];rfl
 have hml:=mix_len ha hb i hI;refine J.q hX λ_=>?_;refine J.cond rfl (λh2=>?_) (λh2=>?_)
 ·simp only[decide_eq_true_eq]at h2;have h3:i<16:=by omega
  refine J.q hX λ_=>?_;refine J.plan (.of [0,4,8,13,16,20,24,29,32,36,40,47]) [10,11] [1,2,3] (by rw[hX.hP];kernel_rfl) (by kernel_rfl) ?_;refine J.q hX λ_=>?_;refine J.valT hX (bv (a.data.getD i 0)) 0 rfl rfl (λhg a w he hC=>?_) rfl ?_
  ·exact load1_run tk rfl rfl he hg rfl rfl (hC rfl _ (cget_mem (i:=1) rfl)) (by rw[show 0+0+(i:Int).toNat*1=i from by omega,shL_get hml h3];exact congrArg (λz=>some (bv z)) (mix_get ha hb h3))
  refine J.q hX λ_=>?_;refine J.valT hX (bv (b.data.getD i 0)) 0 rfl rfl (λhg a w he hC=>?_) rfl ?_
  ·exact load1_run tk rfl rfl he hg rfl rfl (hC rfl _ (cget_mem (i:=2) rfl)) (by rw[show 0+0+(i:Int).toNat*1=i from by omega];exact shL_get hb h3)
  refine J.q hX λ_=>?_;refine J.store1 hX tk 1 rfl rfl rfl rfl rfl rfl rfl rfl rfl rfl rfl rfl rfl ?_ (shL (F9.mixS a b (i+1))) ?_ rfl (λ_=>rfl) ⟨trivial,?_⟩
  ·show 0+0+(i:Int).toNat*1<23;omega
  ·rw[show 0+0+(i:Int).toNat*1=i from by omega,xor_u8b];exact shL_set ha hb h3
  refine J.q hX λ_=>?_;refine J.nx (i+1) (by omega) (by omega) (λ_ s=>s)
 ·simp only[decide_eq_false_iff_not]at h2;obtain rfl:i=16:=by omega
  refine J.q hX λ_=>?_;refine J.plan (.take true 0 (.take true 2 (.take false 3 (.take true 5 (.take true 7 (.take false 8 (.take true 10 (.take true 12 (.take false 13 (.alt false 1 ((.take true 4 (.alt false 6 ((.of [36,46,56,60,66,68,74,76,83])) (.alt false 11 ((.of [56,26,36,60,66,68,74,76,83])) .non)))) (.alt false 6 ((.take true 9 (.alt false 1 ((.of [16,46,56,60,66,68,74,76,83])) (.alt false 11 ((.of [56,6,16,60,66,68,74,76,83])) .non)))) (.alt false 11 ((.take true 14 (.alt false 1 ((.of [16,26,36,60,66,68,74,76,83])) (.alt false 6 ((.of [36,6,16,60,66,68,74,76,83])) .non)))) .non)))))))))))) [19,20] [2,3] (by rw[hX.hP];kernel_rfl) (by kernel_rfl) ?_;refine J.q hX λ_=>?_;refine J.alts ?_ (J.alts ?_ ?_)
  all_goals skip
  ·skip
   refine J.q hX λ_=>?_;refine J.alts ?_ ?_
   ·skip
    refine J.q hX λ_=>?_;exact J.ru hX [] ⟨rfl,rfl⟩
   ·skip
    refine J.q hX λ_=>?_;exact J.ru hX [] ⟨rfl,rfl⟩
  ·skip
   refine J.q hX λ_=>?_;refine J.alts ?_ ?_
   ·skip
    refine J.q hX λ_=>?_;exact J.ru hX [] ⟨rfl,rfl⟩
   ·skip
    refine J.q hX λ_=>?_;exact J.ru hX [] ⟨rfl,rfl⟩
  ·skip
   refine J.q hX λ_=>?_;refine J.alts ?_ ?_
   ·skip
    refine J.q hX λ_=>?_;exact J.ru hX [] ⟨rfl,rfl⟩
   ·skip
    refine J.q hX λ_=>?_;exact J.ru hX [] ⟨rfl,rfl⟩
theorem slots_dI (m:Int):(if 2<=(dI m).length then((dI m).length:Int)-1 else 0)=G.slots m:=by
 rw[dI_count,G.slots]
 by_cases h:L.count m<2
 ·rw[if_pos h,if_neg (by omega)]
 ·rw[if_neg h,if_pos (by omega)]
theorem dI_dies (m:Int):dI m=(L.dies m).map (λd:Nat=>(d:Int)):=by
 unfold dI dsk L.dies;congr 1;cases hs:L.set m with
 | false=>
  rw[if_neg (by simp)];refine List.filter_eq_nil_iff.2 λd _=>?_;simp[L.has,hs]
 | true=>
  rw[if_pos rfl];refine List.filter_congr λd hd=>?_;rw[List.mem_range]at hd;simp[L.has,hs,hd];omega
theorem dI_at (m:Int) (i:Nat) (hi:i<L.count m):(dI m)[i]? =some (L.at_ m i):=by
 have h1:i<(L.dies m).length:=hi;rw[dI_dies,List.getElem?_map,L.at_,if_pos (by omega),Int.toNat_natCast,List.getElem?_eq_getElem h1];rfl
theorem par_idx (b r c:Int) (hb:0<=b) (hr:0<=r) (hc:0<c):(b.tmod c+r.tmod c).tmod c=(b+r) % c/\(0<=b.tmod c/\b.tmod c<c)/\(0<=r.tmod c/\r.tmod c<c):=by
 rw[Int.tmod_eq_emod_of_nonneg hb,Int.tmod_eq_emod_of_nonneg hr];have h1:=Int.emod_nonneg b (show c≠0 by omega);have h2:=Int.emod_nonneg r (show c≠0 by omega);have h3:=Int.emod_lt_of_pos b hc;have h4:=Int.emod_lt_of_pos r hc;refine⟨?_,⟨h1,h3⟩,h2,h4⟩;rw[Int.tmod_eq_emod_of_nonneg (by omega),<- Int.add_emod]
theorem f6_Parity (m b r:Int):Fn Tryz.prog 123 [.int .i64 m, .int .i64 b, .int .i64 r] [] (λv As=>v= .int .i64 (G.parity m b r)/\As=[]):=by
 have hcnt:=dI_count m;have hc8:=L.count_le m;refine Fn.enter [0,0,0] Tryz.func123 rfl rfl rfl λX F hX=>?_;refine J.q hX λ_=>?_;refine J.cb hX (f1_Dies m) [] ?_;rintro v As ⟨a,c,rfl,rfl⟩;refine⟨_,rfl,trivial,?_⟩;rw[hcnt];refine J.q hX λ_=>?_;refine J.cond rfl (λh1=>?_) (λh1=>?_)
 ·refine J.q hX λ_=>?_;refine J.ru hX [] ?_;refine⟨?_,rfl⟩;unfold G.parity;rw[if_pos];simp only[Bool.or_eq_true,decide_eq_true_eq]at h1;omega
 ·simp only[Bool.or_eq_false_iff,decide_eq_false_iff_not]at h1;obtain⟨⟨h1,h2⟩,h3⟩:=h1;have hp:G.parity m b r=L.at_ m ((b+r) % (L.count m:Int)):=by unfold G.parity;rw[if_neg (by omega)]
  obtain⟨e1,e2,e3⟩:=par_idx b r (L.count m) (by omega) (by omega) (by omega);have e4:=Int.emod_nonneg (b+r) (show(L.count m:Int)≠0 by omega);have e5:=Int.emod_lt_of_pos (b+r) (show 0<(L.count m:Int)by omega);obtain⟨i,hi⟩:=Int.eq_ofNat_of_zero_le e4;rw[hi]at e1 e5 hp;have hat:=dI_at m i (by omega);refine J.know (λh' s=>own_some (c:=(a,c)) (by omega) (s.get (i:=1) rfl)) λhg=>?_;obtain⟨g1,rfl⟩:=hg;have e6:=tm_bd b (L.count m) (by omega);refine J.q hX λ_=>?_;refine J.plan (.of [0,4,8,12,16,20,24,28,32,36,40,44,48,52,57,60]) [15] [1] (by rw[hX.hP];kernel_rfl) (by kernel_rfl) ?_;refine J.qn hX 13 λ_=>?_;rw[e1];refine J.q hX λ_=>?_;refine J.valT hX (.int .i64 (L.at_ m (i:Nat))) 0 rfl rfl (λhg a w he hC=>own1_run tk rfl rfl he rfl rfl rfl (hC rfl _ (cget_mem (i:=1) rfl)) (by rw[show 0+(i:Int).toNat*1=i from by omega];exact cellsI_get hat)) rfl ?_;refine J.q hX λ_=>?_;refine J.ru hX [] ?_;exact⟨by rw[hp],rfl⟩
theorem spot_mem (l:List Int) (d:Int):decide (spotI l d>=0)=decide (d∈l):=by
 induction l with
 | nil=>rfl
 | cons x l ih=>
  unfold spotI
  by_cases h:x=d
  ·rw[if_pos h,decide_eq_true (by decide:(0:Int)>=0),decide_eq_true (by rw[h];exact List.mem_cons_self)]
  ·rw[if_neg h]
   by_cases h2:d∈l
   ·rw[decide_eq_true h2]at ih;have:=of_decide_eq_true ih;rw[if_neg (by omega),decide_eq_true (by omega),decide_eq_true (List.mem_cons_of_mem _ h2)]
   ·rw[decide_eq_false h2]at ih;have:=of_decide_eq_false ih;rw[if_pos (by omega),decide_eq_false (by omega),decide_eq_false (by
     intro hm;rcases List.mem_cons.1 hm with e | e
     ·exact h e.symm
     ·exact h2 e)]
theorem spot_hasI (m d:Int):decide (spotI (dI m) d>=0)=L.has m d:=by
 have hmem:d∈dI m↔L.has m d=true:=by
  unfold dI dsk;constructor
  ·intro h;obtain⟨k,hk,e⟩:=List.mem_map.1 h;subst e;exact(List.mem_filter.1 hk).2
  ·intro h;have h8:=L.has_lt m d h;obtain⟨k,rfl⟩:=Int.eq_ofNat_of_zero_le h8.1;exact List.mem_map.2 ⟨k,List.mem_filter.2 ⟨List.mem_range.2 (by omega),h⟩,rfl⟩
 rw[spot_mem,decide_eq_decide.2 hmem];exact Bool.decide_coe _
theorem f9_Look (p:Nat) (N:Nand) (hN:N.Ok) (hR:N.Room) (x y z:Int):Fn Tryz.prog 122 [.pointer (some ⟨p,0,none⟩), .agg #[.int .i64 x, .int .i64 y, .int .i64 z]] [NandA p N]
  (λv As=>v= .tuple #[shV (M.look N x y z).1, .int .i64 (M.look N x y z).2]/\As=[NandA p N]):=by
 refine Fn.enter [2,0] Tryz.func122 rfl rfl rfl λX F hX=>?_;refine J.q hX λ_=>?_;refine J.cb hX (n_Read p N hN x y z) [1] ?_;refine cpq ⟨_,rfl,trivial,?_⟩;have hl0:∀e,N.readE x y z=e->e≠0->M.look N x y z=if e=5 then(Sh.zero,2)else if e=8\/e=9\/e=3\/e=12 then(Sh.zero,4)else(Sh.zero,3):=λe he h=>by
  simp only[M.look];rw[he,if_neg h]
 have hlk:N.readE x y z=0->M.look N x y z=if S.getE (N.readV x y z)≠0\/M.bad (S.getV (N.readV x y z)) x y z=true then(Sh.zero,3)else(S.getV (N.readV x y z),1):=λh1=>by simp only[M.look];rw[if_pos h1]
 have hvl:=readV_len hN x y z;generalize N.readE x y z=e at hl0 hlk;refine J.q hX λ_=>?_;refine J.cond rfl (λh1=>?_) (λh1=>?_)
 ·simp only[beq_iff_eq]at h1;subst h1;refine J.q hX λ_=>?_;refine J.ru hX [1] ?_;rw[hl0 5 rfl (by decide)];exact⟨rfl,rfl⟩
 have H4:e=8\/e=9\/e=3\/e=12->M.look N x y z=(Sh.zero,4):=λh=>by
  rw[hl0 e rfl (by omega),if_neg (by omega),if_pos h]
 refine J.q hX λ_=>?_;refine J.cond rfl (λh2=>?_) (λh2=>?_)
 ·rw[h2];refine J.q hX λ_=>?_;refine J.cT ?_;simp only[beq_iff_eq]at h2;refine J.q hX λ_=>?_;refine J.ru hX [1] ?_;rw[H4 (.inl h2)];exact⟨rfl,rfl⟩
 refine J.q hX λ_=>?_;refine J.cond rfl (λh3=>?_) (λh3=>?_)
 ·rw[h3];refine J.q hX λ_=>?_;refine J.cT ?_;simp only[beq_iff_eq]at h3;refine J.q hX λ_=>?_;refine J.ru hX [1] ?_;rw[H4 (.inr (.inl h3))];exact⟨rfl,rfl⟩
 refine J.q hX λ_=>?_;refine J.cond rfl (λh4=>?_) (λh4=>?_)
 ·rw[h4];refine J.q hX λ_=>?_;refine J.cT ?_;simp only[beq_iff_eq]at h4;refine J.q hX λ_=>?_;refine J.ru hX [1] ?_;rw[H4 (.inr (.inr (.inl h4)))];exact⟨rfl,rfl⟩
 refine J.q hX λ_=>?_;refine J.cond rfl (λh5=>?_) (λh5=>?_)
 ·simp only[beq_iff_eq]at h5;refine J.q hX λ_=>?_;refine J.ru hX [1] ?_;rw[H4 (.inr (.inr (.inr h5)))];exact⟨rfl,rfl⟩
 refine J.q hX λ_=>?_;refine J.cond rfl (λh6=>?_) (λh6=>?_)
 ·simp only[beq_iff_eq]at h6;have hlk:=hlk h6;refine J.q hX λ_=>?_;refine J.cb hX (f9_Get (N.readV x y z) hvl) [] ?_;refine cpq ⟨_,rfl,trivial,?_⟩;refine J.q hX λ_=>?_;refine J.plan (.of [0,5,8,13,16,21,28,33,26,36,40]) [9,10] [1,2,3,4,5] (by rw[hX.hP];kernel_rfl) (by kernel_rfl) ?_;refine J.q hX λ_=>?_;refine J.cb hX (f6_Parity (S.getV (N.readV x y z)).mask (S.getV (N.readV x y z)).block (S.getV (N.readV x y z)).row) [] ?_;refine cpq ⟨_,rfl,⟨rfl,rfl,rfl,rfl,rfl,trivial⟩,?_⟩;have hgE:S.getE (N.readV x y z)=if(S.get (N.readV x y z)).isSome then 0 else 1:=rfl
  generalize S.getE (N.readV x y z)=ge at hlk hgE;generalize(S.get (N.readV x y z)).isSome=gs at hgE;generalize S.getV (N.readV x y z)=s at hlk;refine J.q hX λ_=>?_;refine J.gcase hX rfl rfl rfl trivial (λhb=>?_) (λhb=>?_)
  ·rw[hb];refine J.q hX λ_=>?_;refine J.cb hX (f1_Spot s.mask x) [] ?_;refine cpq ⟨_,rfl,trivial,?_⟩;have hsp:=spot_hasI s.mask x;refine J.q hX λ_=>?_;rw[hsp];simp only[Bool.and_eq_true,beq_iff_eq]at hb;have hge:ge=0:=by rw[hgE,if_pos hb.1.1]
   refine J.q hX λ_=>?_;refine J.cond rfl (λh7=>?_) (λh7=>?_)
   ·have hc:¬(ge≠0\/M.bad s x y z=true):=by
     have:M.bad s x y z=false:=by
      unfold M.bad;simp only[Bool.true_and,Bool.and_eq_true]at h7;rw[h7.1];have h8:=h7.2;rw[beq_iff_eq]at h8;rw[h8,hb.1.2,hb.2];simp
     rw[this,hge];simp
    refine J.q hX λ_=>?_;refine J.ru hX [1] ?_;rw[hlk,if_neg hc];exact⟨rfl,rfl⟩
   ·have hc:ge≠0\/M.bad s x y z=true:=by
     right;unfold M.bad;rw[hb.1.2,hb.2];cases hh:L.has s.mask x with
     | false=>simp
     | true=>
      rw[hh]at h7;simp only[Bool.true_and]at h7;rw[beq_eq_false_iff_ne,hb.1.2,hb.2]at h7;simpa using h7
    refine J.q hX λ_=>?_;refine J.ru hX [1] ?_;rw[hlk,if_pos hc];exact⟨rfl,rfl⟩
  ·rw[hb];refine J.q hX λ_=>?_;refine J.val hX (.bool false) 0 rfl rfl (λhg a w he hw=>by simp[G.on]at hg) rfl trivial ?_;have hc:ge≠0\/M.bad s x y z=true:=by
    cases gs with
    | false=>left;rw[hgE];decide
    | true=>
     right;rw[Bool.true_and,Bool.and_eq_false_iff]at hb;unfold M.bad;rcases hb with h | h
     ·rw[beq_eq_false_iff_ne]at h;simp[h]
     ·rw[beq_eq_false_iff_ne]at h;simp[h]
   refine J.q hX λ_=>?_;refine J.cond rfl (λh7=>?_) (λh7=>?_)
   ·simp at h7
   ·refine J.q hX λ_=>?_;refine J.ru hX [1] ?_;rw[hlk,if_pos hc];exact⟨rfl,rfl⟩
 simp only[beq_eq_false_iff_ne,ne_eq]at h1 h2 h3 h4 h5 h6;refine J.q hX λ_=>?_;refine J.ru hX [1] ?_;rw[hl0 e rfl h6,if_neg h1,if_neg (by omega)];exact⟨rfl,rfl⟩
theorem f9_entry (s:Sh):Fn Tryz.prog 79 [shV s] [] (λv As=>v=enV s.en/\As=[]):=by
 refine Fn.enter [0] Tryz.func79 rfl rfl rfl λX F hX=>?_;refine J.q hX λ_=>?_;exact J.ru hX [] ⟨rfl,rfl⟩
theorem f9_one (p:Nat) (N:Nand) (hN:N.Ok) (hR:N.Room) (b r m d:Int):Fn Tryz.prog 78 [.pointer (some ⟨p,0,none⟩), .int .i64 b, .int .i64 r, .int .i64 m, .int .i64 d] [NandA p N]
  (λv As=>v= .tuple #[shV (R.one N b r m d).1, .bool (R.one N b r m d).2]/\As=[NandA p N]):=by
 refine Fn.enter [2,0,0,0,0] Tryz.func78 rfl rfl rfl λX F hX=>?_;refine J.q hX λ_=>?_;refine J.cb hX (f9_Look p N hN hR d b r) [1] ?_;refine cpq ⟨_,rfl,trivial,?_⟩;refine J.q hX λ_=>?_;refine J.plan (.of [1,4,8,12,16,21,24,28,32,38,40]) [10] [1,3] (by rw[hX.hP];kernel_rfl) (by kernel_rfl) ?_;refine J.q hX λ_=>?_;exact J.ru hX [1] ⟨rfl,rfl⟩
namespace T2
end T2
end Go.Proofs.YtdocmcapegcoeaaGreat
namespace Go.Proofs.YtdocmcapegcoeaaGreat
open Go
structure Nand.Lit (N:Nand):Prop where
 off:N.off=false
 cuts:N.cuts=false
namespace Nand
theorem Lit.cutB {N:Nand} (h:N.Lit):N.cutB=false:=by unfold Nand.cutB;rw[h.cuts];rfl
theorem Lit.cutN {N:Nand} (h:N.Lit):N.cutN.Lit:=by
 constructor
 ·show(if N.cutB then true else N.off)=false;rw[h.cutB];exact h.off
 ·show(if N.cutB then false else N.cuts)=false;rw[h.cutB];exact h.cuts
theorem Lit.new (d b p:Nat):(Nand.new d b p).Lit:=⟨rfl,rfl⟩
theorem Lit.prog {N:Nand} (h:N.Lit) (x y z:Int) (pg:List UInt8):(N.progN x y z pg).Lit:=by
 unfold Nand.progN;split
 ·exact h
 ·split
  ·exact⟨h.off,h.cuts⟩
  ·rw[h.cutB];exact⟨h.cutN.off,h.cutN.cuts⟩
theorem Lit.erase {N:Nand} (h:N.Lit) (x y:Int):(N.eraseN x y).Lit:=by
 unfold Nand.eraseN;dsimp only;rw[h.cutB];split
 ·exact h
 ·rw[if_neg (by decide)];split
  ·exact⟨h.cutN.off,h.cutN.cuts⟩
  ·exact⟨h.cutN.off,h.cutN.cuts⟩
end Nand
end Go.Proofs.YtdocmcapegcoeaaGreat
namespace Go.Proofs.YtdocmcapegcoeaaGreat
open Go Go.RowKit
open Go.ChangeShapes Go.WideShapes
def frz (W:World):Atom:= .hp ⟨Hle (hl W),λ_ _ l s=>s.trans l⟩
theorem frz_rd {W:World} {a:Option Addr} {size n:Nat} {xs:List Value} (h:rdP a size n xs (hl W)):Rd (frz W) a size n xs:=λ_ s=>h.up s
theorem Fn.whole {P:Program} {f:FuncId} {args:List Value} {r:Value} {W:World} (h:Fn P f args [frz W] (λv As=>v=r/\As=[frz W])):Calls P f args.toArray W λe w'=>e= .returned r/\Below W.heap.size W w':=by
 have hs:Sep (.hp ⟨λ_=>True,λ_ _ _ s=>s⟩::[frz W]) (hl W):=by
  refine⟨λ_=>1,λi A hA=>?_⟩
  match i,hA with
  | 0,hA=>simp at hA;subst hA;trivial
  | 1,hA=>
   simp at hA;subst hA;intro b o hb;exact res_some.2 ⟨rfl,hb⟩
  | i+2,hA=>simp at hA
 refine(h _ W hs).mono λe w' ⟨v,As,e1,⟨e2,e3⟩,s,x⟩=>?_;subst e2 e3;have hle:Hle (hl W) (hl w'):=s.get (i:=1) rfl;refine⟨e1,x.os,x.tape,x.output,x.size,λk hk=>?_⟩;have:W.heap[k]? =some W.heap[k]:=Array.getElem?_eq_getElem hk;rw[this];exact hle k _ this
theorem rd_none {size:Nat} {h:Hl}:rdP none size 0 [] h:=⟨by simp,λh=>absurd h (by omega)⟩
theorem rd_open {α:Type} {W:World} {base size n:Nat} {a:Addr} (f:α->List Value) (hsz:0<size)
  (h:∀i,i<n->∃x,W.cells? base (a.add (i*size)) size=some (f x)):∃l:List α,l.length=n/\rdP (some a) size n (l.flatMap f) (hl W):=by
 have h1:∀m,m<=n->∃l:List α,l.length=m/\(l.flatMap f).length=m*size/\∀i,i<m*size->W.cell? (a.add i)=(l.flatMap f)[i]?:=by
  intro m
  induction m with
  | zero=>exactλ_=>⟨[],rfl,by simp,λi hi=>by omega⟩
  | succ m ih=>
   intro hm;obtain⟨l,e1,e2,e3⟩:=ih (by omega);obtain⟨x,hx⟩:=h m (by omega);obtain⟨_,q1,q2⟩:=World.cells?_some hx;have hlen:((l++[x]).flatMap f).length=(m+1)*size:=by simp[List.flatMap_append,e2,q1,Nat.succ_mul]
   refine⟨l++[x],by simp[e1],hlen,λi hi=>?_⟩;rw[List.flatMap_append,List.getElem?_append,e2];split
   ·exact e3 i (by assumption)
   ·rename_i hge;have:=q2 (i-m*size) (by rw[Nat.succ_mul]at hi;omega);rw[Deep.add_add,show m*size+(i-m*size)=i by omega]at this;rw[this];simp
 obtain⟨l,e1,e2,e3⟩:=h1 n (Nat.le_refl n);refine⟨l,e1,e2,λhn=>?_⟩;obtain⟨b,o,sp⟩:=a;have hpos:0<n*size:=Nat.mul_pos hn hsz;have h0:=e3 0 hpos;have hv:(l.flatMap f)[0]? =some ((l.flatMap f)[0]'(by omega)):=List.getElem?_eq_getElem _;rw[hv]at h0;have hsp:sp=none:=by simpa[Addr.add]using World.cell?_spot h0
 subst hsp;have hcell:∀i,W.cell? ⟨b,o+i,none⟩=W.cell? ((⟨b,o,none⟩:Addr).add i):=λi=>by rw[Addr.add_none]
 have hblk:∃cs ty fr,W.heap[b]? =some (.cells cs ty fr):=by
  unfold World.cell? at h0;cases hh:W.heap[b]? with
  | none=>simp[Addr.add,hh]at h0
  | some ob=>
   cases ob with
   | cells cs ty fr=>exact⟨cs,ty,fr,rfl⟩
   | _=>simp[Addr.add,hh]at h0
 obtain⟨cs,ty,fr,hh⟩:=hblk;refine⟨b,o,cs,ty,fr,rfl,hh,?_⟩;apply List.ext_getElem?;intro i;rw[List.getElem?_take];split
 ·rename_i hi;rw[<- e3 i hi,<- hcell,cell_of_row W b (o+i) cs ty fr hh];simp
 ·rename_i hi;exact(List.getElem?_eq_none (by omega)).symm
section
variable {H : Type} {enc : TypeId × Value → H} {w : World} {base : Nat} {spare : Nat → Bool} {held : Bool}
theorem one_i64 {t:TypeId} (ht:Tryz.prog.underlying t=some (.int .i64)) {fuel:Nat} {cs:List Value} {y:DataW H×List MemPlace} (h:DataW.trod enc Tryz.prog w base spare held fuel t cs=some y):∃n,cs=[.int .i64 n]:=by
 obtain⟨n,rfl,_,_⟩:=DataW.trod_int ht h;exact⟨n,rfl⟩
end
end Go.Proofs.YtdocmcapegcoeaaGreat
namespace Go.Proofs.YtdocmcapegcoeaaGreat
open Go Go.RowKit
open Go.ChangeShapes Go.WideShapes Go.ChangeAt
section
variable {H : Type} {enc : TypeId × Value → H} {w : World} {base : Nat} {spare : Nat → Bool} {held : Bool}
theorem open_many {α:Type} {held':Bool} {fuel:Nat} {st et:TypeId} {size:Nat} (f:α->List Value) (good:α->Prop) (hu:Tryz.prog.underlying st=some (.slice et)) (hc:Tryz.prog.cellsOf et=size) (hsz:0<size)
  (hof:∀{fuel:Nat} {held:Bool} {cs:List Value} {y:DataW H×List MemPlace},DataW.trod enc Tryz.prog w base spare held fuel et cs=some y->∃x:α,good x/\cs=f x)
  {a:Option Addr} {len cap:Nat} {x:DataW H×List MemPlace} (h:DataW.trod enc Tryz.prog w base spare held' fuel st [.slice a len cap]=some x):
  ∃l:List α,l.length=len/\(∀e∈l,good e)/\rdP a size len (l.flatMap f) (hl w):=by
 rcases Deep.open_slice hu h with⟨hcs,_⟩ | ⟨a',len',cap',m,n,D,Pl,hcs,hb,hlc,hm,hmm,rfl,hx⟩
 ·simp at hcs;obtain⟨rfl,rfl,rfl⟩:=hcs;exact⟨[],rfl,λ_ h=>by simp at h,rd_none⟩
 ·simp at hcs;obtain⟨rfl,rfl,rfl⟩:=hcs;rw[hc]at hx;obtain⟨l,e1,e2⟩:=rd_open (W:=w) (base:=base) (size:=size) (n:=len) (a:=a') (λe:{e:α//good e}=>f e.1) hsz (λi hi=>by
   obtain⟨cs,q1,q2⟩:=hx i (by rw[hmm];split<;>omega);obtain⟨e,he,rfl⟩:=hof q2;exact⟨⟨e,he⟩,q1⟩)
  refine⟨l.map (·.1),by simpa using e1,λe he=>?_,?_⟩
  ·obtain⟨x,_,rfl⟩:=List.mem_map.1 he;exact x.2
  ·rw[List.flatMap_map];exact e2
end
end Go.Proofs.YtdocmcapegcoeaaGreat
namespace Go.Proofs.YtdocmcapegcoeaaGreat
open Go Go.RowKit
open Go.ChangeShapes Go.WideShapes Go.ChangeAt
section
variable {H : Type} {enc : TypeId × Value → H} {w : World} {base : Nat} {spare : Nat → Bool} {held : Bool}
theorem int_of {fuel:Nat} {cs:List Value} {y:DataW H×List MemPlace} (h:DataW.trod enc Tryz.prog w base spare held fuel 3 cs=some y):∃x:Int,(-9223372036854775808<=x/\x<=9223372036854775807)/\cs=[.int .i64 x]:=by
 obtain⟨n,rfl,_,hw⟩:=DataW.trod_int Tryz.underlying3 h;refine⟨n,?_,rfl⟩;simpa[Lit.wf,IntKind.min,IntKind.max,IntKind.signed,IntKind.bits]using hw
theorem open_ints {held':Bool} {fuel:Nat} {a:Option Addr} {len cap:Nat} {x:DataW H×List MemPlace} (h:DataW.trod enc Tryz.prog w base spare held' fuel 24 [.slice a len cap]=some x):
  ∃l:List Int,l.length=len/\(∀e∈l,-9223372036854775808<=e/\e<=9223372036854775807)/\rdP a 1 len (l.flatMap λx=>[.int .i64 x]) (hl w):=
 open_many (λx:Int=>[.int .i64 x]) (λx=> -9223372036854775808<=x/\x<=9223372036854775807) Tryz.underlying24 (by kernel_rfl) (by decide) int_of h
end
end Go.Proofs.YtdocmcapegcoeaaGreat
namespace Go.Proofs.YtdocmcapegcoeaaGreat
open Go Go.RowKit
def rdA (a:Option Addr) (size n:Nat) (xs:List Value):Atom:= .hp ⟨rdP a size n xs,λ_ _ l s=>s.up l⟩
theorem rdA_rd (a:Option Addr) (size n:Nat) (xs:List Value):Rd (rdA a size n xs) a size n xs:=λ_ s=>s
def oad2:Option (Nat×Nat)->Option Addr
 | some x=>some ⟨x.1,x.2,none⟩
 | none=>none
def cutA (a:Option (Nat×Nat)) (size h c:Nat):Option (Nat×Nat):=match a with
 | some y=>if c=h then some y else some (y.1,y.2+h*size)
 | none=>none
section
variable {P : Program} {T : Tab} {E : Env} {n : Nat} {ac : Act} {w : World}
theorem cutlo2_run (hT:TabOK P T) {o:Oper} {t e size:Nat} {x y:Operand} {k1 k2 t1 t2:Nat} {g1 g2:G} {a:Option (Nat×Nat)} {m c h:Nat} {kk:IntKind} {hI:Int} {s1 b1 b2:Nat} {z1 z2:List Value} {td:TD} (hop:o.op= .slice t x (some y) none none) (hx:ev E x=some ⟨k1, .slice (oad2 a) m c,t1,g1⟩) (hy:ev E y=some ⟨k2, .int kk hI,t2,g2⟩) (he:EnvOK n E ac) (v1:g1.on=true) (v2:g2.on=true)
  (ht:T.get t=some ⟨.slice e size,s1,z1,b1⟩) (hte:T.get e=some ⟨td,size,z2,b2⟩) (hhI:hI=(h:Int)) (hh:h<=m):
  (execOp ac.eval o).run P w= .ok (.value (.slice (oad2 (cutA a size h c)) (m-h) (c-h))) w:=by
 subst hhI;have e1:=ev_spec he hx;have e2:=ev_spec he hy;simp only[Slot.val,v1,v2]at e1 e2;obtain⟨d,f,zv,ok⟩:=tiOf_spec (hT.get ht);obtain⟨fe,rfl,g1,g2⟩:=ok.slice rfl;cases a with
 | none=>
  simp only[execOp,hop,Option.map_some,Option.map_none,e1,e2,Instr.sliceAt,Instr.slice,Instr.sliceBounds,Instr.sliceBound,asIntOf,Sem.run_bind,Sem.run_pure,Result.andThen_ok,underlying_run ok.hd,sizeOf_run g1,g2];simp[hh,oad2,cutA]
 | some ad=>
  by_cases hne:c=h
  ·simp only[execOp,hop,Option.map_some,Option.map_none,e1,e2,Instr.sliceAt,Instr.slice,Instr.sliceBounds,Instr.sliceBound,asIntOf,Sem.run_bind,Sem.run_pure,Result.andThen_ok,underlying_run ok.hd,sizeOf_run g1,g2];simp[hh,hne,Addr.add_none,oad2,cutA]
  ·simp only[execOp,hop,Option.map_some,Option.map_none,e1,e2,Instr.sliceAt,Instr.slice,Instr.sliceBounds,Instr.sliceBound,asIntOf,Sem.run_bind,Sem.run_pure,Result.andThen_ok,underlying_run ok.hd,sizeOf_run g1,g2];simp[hh,hne,Addr.add_none,oad2,cutA]
end
section
variable {X : Cx} {P : Program} {K : List KI} {E : Env} {L : List Atom} {N : Nat} {F : HP} {Post : Value → List Atom → Prop} {rs : List ResultVar} {T : Tab}
end
theorem rd_cutA {a:Option (Nat×Nat)} {size n c h:Nat} {xs:List Value} {hh:Hl} (s:rdP (oad2 a) size n xs hh) (hn:h<=n) (hc:n<=c):rdP (oad2 (cutA a size h c)) size (n-h) (xs.drop (h*size)) hh:=by
 cases a with
 | none=>
  refine⟨by rw[List.length_drop,s.1,Nat.sub_mul],λh0=>?_⟩;obtain⟨b,o,_,_,_,e,_⟩:=s.2 (by omega);cases e
 | some y=>
  by_cases e:c=h
  ·refine⟨by rw[List.length_drop,s.1,Nat.sub_mul],λh0=>by omega⟩
  ·unfold cutA;simp only[if_neg e];exact(rdA_rd (some ⟨y.1,y.2,none⟩) size n xs).drop h hn _ s
theorem ne_selfI (z:Int):(z !=z)=false:=by simp
theorem cellsE_drop (L:List En):∀k,(cellsE L).drop (k*19)=cellsE (L.drop k):=by
 induction L with
 | nil=>intro k;simp[cellsE]
 | cons x l ih=>
  intro k;cases k with
  | zero=>simp
  | succ k=>
   have e1:cellsE (x::l)=enL x++cellsE l:=by simp[cellsE]
   rw[e1,List.drop_succ_cons,<- ih k,show(k+1)*19=(enL x).length+k*19 from by show _=19+k*19;omega,<- List.drop_drop,List.drop_left' rfl]
theorem rd_drop {a:Option (Nat×Nat)} {n c h:Nat} {L:List En} {hh:Hl} (s:rdP (oad2 a) 19 n (cellsE L) hh) (hl:L.length=n) (hn:h<=n) (hc:n<=c):rdP (oad2 (cutA a 19 h c)) 19 (L.drop h).length (cellsE (L.drop h)) hh:=by
 have:=rd_cutA s hn hc
 rwa [cellsE_drop,<- hl,<- List.length_drop]at this
theorem cutA_none {a:Option (Nat×Nat)} {size h c:Nat} (hz:a=none->c=0):cutA a size h c=none->c-h=0:=by
 cases a with
 | none=>intro _;rw[hz rfl];omega
 | some y=>intro e;unfold cutA at e;simp only at e;split at e<;>cases e
theorem cellsI_flat (xs:List Int):(xs.flatMap λx=>[Value.int .i64 x])=cellsI xs:=by
 induction xs with
 | nil=>rfl
 | cons x xs ih=>simp only[List.flatMap_cons,ih];rfl
theorem mn_Torn (n t l p:Nat) (S:Dv) (k mm:Nat) (A:Atom) (a:Option (Nat×Nat)) (m c:Nat) (es:List En) (hA:Rd A (oad2 a) 19 m (cellsE es)) (hl:es.length=m) (hm:m<=1000000) (hc:m<=c) (ha:a=none->c=0) (hd:∀s∈es,s.data.length=16) (hO:S.Ok (Dv.costT*m+k) mm) (hmm:mm<=12):
  Fn Tryz.prog 50 [.pointer (some ⟨n,0,none⟩), .pointer (some ⟨t,0,none⟩), .pointer (some ⟨l,0,none⟩), .pointer (some ⟨p,0,none⟩), .slice (oad2 a) m c] (DvP p n t l S++[A])
  (λv As=>v= .int .i64 (S.torn es).2/\As=DvP p n t l (S.torn es).1++[A]):=by
 subst hl;refine Fn.enter [3,4,5,2,0] Tryz.func50 rfl rfl rfl λX F hX=>?_;refine J.q hX λ_=>?_;refine J.lo (α:=(Nat×Dv×List En×Option (Nat×Nat)×Nat)) (λz=>z.2.2.1.length<=z.1/\z.2.2.1.length<=z.2.2.2.2/\z.2.2.1.length<=1000000/\(z.2.2.2.1=none->z.2.2.2.2=0)/\Rd A (oad2 z.2.2.2.1) 19 z.2.2.1.length (cellsE z.2.2.1)/\(∀s∈z.2.2.1,s.data.length=16)/\z.2.1.Ok (Dv.costT*z.1+k) mm/\Dv.tornGo z.1 z.2.1 z.2.2.1=S.torn es) (λz=>[⟨4, .slice (oad2 z.2.2.2.1) z.2.2.1.length z.2.2.2.2,0, .tt⟩,⟨0, .pointer (some ⟨n,0,none⟩),3, .tt⟩,⟨1, .pointer (some ⟨t,0,none⟩),4, .tt⟩,⟨2, .pointer (some ⟨l,0,none⟩),5, .tt⟩,⟨3, .pointer (some ⟨p,0,none⟩),2, .tt⟩]) [1,2,3,4] (λz=>DvP p n t l z.2.1) (λz=>z.1) ((es.length,S,es,a,c)) (⟨Nat.le_refl _,hc,hm,ha,hA,hd,hO,rfl⟩) rfl ?_ (λ_=>rfl) λz hI=>?_
 ·rfl
 obtain⟨j,Q,L,a',c'⟩:=z;dsimp only at hI ⊢;obtain⟨hj,hLc,hLm,ha',hAr,hLd,hQ,hw⟩:=hI;refine J.q hX λ_=>?_;refine J.cond rfl (λh1=>?_) (λh1=>?_)
 ·simp only[decide_eq_true_eq]at h1;have hL0:L.length≠0:=by omega
  obtain⟨j,rfl⟩:∃i,j=i+1:=⟨j-1,by omega⟩;rw[Dv.tornGo,if_neg hL0]at hw;dsimp only at hw;have hQ1:Q.Ok (Dv.costM+(8*Dv.fuel+(Dv.costT*j+k))) mm:=hQ.less (by unfold Dv.costT Dv.cost;rw[Nat.mul_succ];omega);have hr:=Dv.room_keep hQ1;refine J.q hX λ_=>?_;refine J.cb hX (sw_Room n t l p Q _ mm hQ1 hmm) [1,2,3,4] ?_;refine cpq ⟨_,rfl,trivial,?_⟩;generalize Q.room=W at hw hr ⊢;obtain⟨P,er⟩:=W;dsimp only at hw hr ⊢;refine J.q hX λ_=>?_;refine J.cond rfl (λh2=>?_) (λh2=>?_)
  ·simp only[bne_iff_ne,ne_eq]at h2;rw[if_pos h2]at hw;refine J.q hX λ_=>?_;refine J.ru hX [1,2,3,4,5] ?_;rw[<- hw];exact⟨rfl,rfl⟩
  simp only[bne_eq_false_iff_eq]at h2;rw[if_neg (by rw[h2];decide)]at hw;have htook:=λh0=>Dv.pen_took hr.1 hLd h0 hL0;have hkeep:=Dv.pen_keep hr.1 hLd;refine J.q hX λ_=>?_;refine J.cb hX (pn_Write p n t l P _ mm hr.1 A (oad2 a') L.length c' L hAr rfl hLm hLd) [1,2,3,4,5] ?_;refine cpq ⟨_,rfl,trivial,?_⟩;have hpb:0<=(P.pen L).2.1/\(P.pen L).2.1<=7:=write_bd _ _ _;generalize P.pen L=W at hw htook hkeep hpb ⊢;obtain⟨P',nn,er2⟩:=W;dsimp only at hw htook hkeep hpb ⊢;refine J.q hX λ_=>?_;refine J.cond rfl (λh3=>?_) (λh3=>?_)
  ·simp only[bne_iff_ne,ne_eq]at h3;rw[if_pos h3]at hw;refine J.q hX λ_=>?_;refine J.ru hX [1,2,3,4,5] ?_;rw[<- hw];exact⟨rfl,rfl⟩
  simp only[bne_eq_false_iff_eq]at h3;rw[if_neg (by rw[h3];decide)]at hw;have htk:=htook h3;obtain⟨v,rfl⟩:=Int.eq_ofNat_of_zero_le hpb.1;have hvL:v<=L.length:=by have:=htk.2.1;omega
  rw[Int.toNat_natCast]at hw;refine J.qn hX 4 λ_=>?_;refine J.val hX (.slice (oad2 (cutA a' 19 v c')) (L.length-v) (c'-v)) 0 rfl rfl (λhg aa w he hw=>cutlo2_run tk rfl rfl rfl he rfl rfl rfl rfl rfl hvL) rfl trivial ?_;rw[show L.length-v=(L.drop v).length from by rw[List.length_drop]];refine J.q hX λ_=>?_;refine J.nS ((j,P',L.drop v,cutA a' 19 v c',c'-v)) (⟨by dsimp only;rw[List.length_drop];omega,by dsimp only;rw[List.length_drop];omega,by dsimp only;rw[List.length_drop];omega,cutA_none ha',λh s=>rd_drop (hAr h s) rfl hvL hLc,λs hs=>hLd s (List.mem_of_mem_drop hs),hkeep.1,hw⟩) (by dsimp only;omega) [0,1,2,3,4,5] rfl rfl
 ·simp only[decide_eq_false_iff_not]at h1;have hL0:L.length=0:=by omega
  have hz:Dv.tornGo j Q L=(Q,0):=by
   cases j with
   | zero=>rfl
   | succ j=>rw[Dv.tornGo,if_pos hL0]
  refine J.q hX λ_=>?_;refine J.ru hX [1,2,3,4,5] ?_;rw[<- hw,hz];exact⟨rfl,rfl⟩
end Go.Proofs.YtdocmcapegcoeaaGreat
namespace Go.Proofs.YtdocmcapegcoeaaGreat
open Go
theorem Bt.numAt_congr {a b:List UInt8} {k:Nat}:∀w,(∀i,i<w->Bt.bitAt a (k+i)=Bt.bitAt b (k+i))->Bt.numAt a k w=Bt.numAt b k w
 | 0,_=>rfl
 | w+1,h=>by rw[Bt.numAt,Bt.numAt,Bt.numAt_congr w (λi hi=>h i (by omega)),h w (by omega)]
theorem fill_get (K:Nat) (p:List UInt8) (hp:p.length=32) (hK:K<=32) (i:Nat):(Nand.fillP K p).getD i 0=if i<K then p.getD i 0 else if i<32 then 255 else 0:=by
 unfold Nand.fillP;simp only[List.getD_eq_getElem?_getD];rw[List.getElem?_append,List.length_take,hp]
 by_cases h:i<K
 ·rw[if_pos (by omega),if_pos h,List.getElem?_take,if_pos h]
 ·rw[if_neg (by omega),if_neg h]
  by_cases h2:i<32
  ·rw[if_pos h2,List.getElem?_replicate,if_pos (by omega)];rfl
  ·rw[if_neg h2,List.getElem?_replicate,if_neg (by omega)];rfl
theorem drop_getD (p:List UInt8) (k i:Nat):(p.drop k).getD i 0=p.getD (k+i) 0:=by
 simp[List.getD_eq_getElem?_getD]
theorem torn_kind (K:Nat) (p:List UInt8) (hp:p.length=32) (hK:K<28):(S.fields (Nand.fillP K p)).kind=255:=by
 show((Bt.numAt ((Nand.fillP K p).drop 16) 88 8:Nat):Int)=255;rw[Bt.numAt_eq _ 88 8 255 (λi hi=>?_) 8 (Nat.le_refl 8)]
 ·rfl
 ·unfold Bt.bitAt;rw[show(88+i)/8=11 from by omega,drop_getD,fill_get K p hp (by omega),if_neg (by omega),if_pos (by omega),show 7-(88+i) % 8=8-1-i from by omega];rfl
theorem torn_fields (K:Nat) (p:List UInt8) (hp:p.length=32) (hK:28<=K) (hK2:K<=32):S.fields (Nand.fillP K p)=S.fields p:=by
 have hb:∀j,j<96->Bt.bitAt ((Nand.fillP K p).drop 16) j=Bt.bitAt (p.drop 16) j:=λj hj=>by
  unfold Bt.bitAt;rw[drop_getD,drop_getD,fill_get K p hp hK2,if_pos (by omega)]
 have h16:(Nand.fillP K p).take 16=p.take 16:=by
  unfold Nand.fillP;rw[List.take_append_of_le_length (by rw[List.length_take,hp];omega),List.take_take,Nat.min_eq_left (by omega)]
 unfold S.fields;simp only[h16,Bt.numAt_congr (a:=(Nand.fillP K p).drop 16) (b:=p.drop 16) (k:=0) 64 (λi hi=>hb _ (by omega)),Bt.numAt_congr (a:=(Nand.fillP K p).drop 16) (b:=p.drop 16) (k:=88) 8 (λi hi=>hb _ (by omega)),
  Bt.numAt_congr (a:=(Nand.fillP K p).drop 16) (b:=p.drop 16) (k:=64) 8 (λi hi=>hb _ (by omega)),Bt.numAt_congr (a:=(Nand.fillP K p).drop 16) (b:=p.drop 16) (k:=72) 8 (λi hi=>hb _ (by omega)),Bt.numAt_congr (a:=(Nand.fillP K p).drop 16) (b:=p.drop 16) (k:=80) 8 (λi hi=>hb _ (by omega))]
namespace Nand
variable {N : Nand} {n : Nat}
end Nand
namespace Nand
variable {N N' N'' : Nand} {b : Nat}
end Nand
namespace V
end V
def u8 (x:Int):UInt8:=UInt8.ofNat (x % 256).toNat
end Go.Proofs.YtdocmcapegcoeaaGreat
namespace Go.Proofs.YtdocmcapegcoeaaGreat
open Go Go.RowKit
theorem u8_val (x:Int):Value.int .u8 (IntKind.u8.wrap x)=bv (u8 x):=by
 have h:IntKind.u8.wrap x=x % 256:=by simp[IntKind.wrap,IntKind.bits,IntKind.signed]
 rw[h,bv,u8];congr 1;have h1:0<=x % 256/\x % 256<256:=⟨Int.emod_nonneg _ (by decide),Int.emod_lt_of_pos _ (by decide)⟩;have h2:(UInt8.ofNat (x % 256).toNat).toNat=(x % 256).toNat:=by
  rw[UInt8.toNat_ofNat'];omega
 rw[h2];omega
end Go.Proofs.YtdocmcapegcoeaaGreat
