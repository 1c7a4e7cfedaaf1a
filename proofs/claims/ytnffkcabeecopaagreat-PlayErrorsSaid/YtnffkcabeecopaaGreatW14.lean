/- Helpers. No condition. -/
import Derived.Test.YtnffkcabeecopaaGreatW04
import Derived.Test.YtnffkcabeecopaaGreatW05
import Derived.Test.YtnffkcabeecopaaGreatW10
import Derived.Test.YtnffkcabeecopaaGreatW11
import Derived.Test.YtnffkcabeecopaaGreatW12
import Derived.Test.YtnffkcabeecopaaGreatW13
set_option maxRecDepth 20000
set_option linter.all false
namespace Go.Proofs.YtnffkcabeecopaaGreat
open Go Go.RowKit
structure MSl where
 v:MPv
 a1:Option Nat
 c1:Nat
 a2:Option Nat
 c2:Nat
def x6 (l:List (List UInt8)):List Value:=l.flatMap j8
def MSl.cells (z:MSl):List Value:=[byC z.v.now 0,byC z.v.now 1,byC z.v.now 2,byC z.v.now 3,byC z.v.now 4,byC z.v.now 5,byC z.v.now 6,byC z.v.now 7,byC z.v.now 8,byC z.v.now 9,byC z.v.now 10,byC z.v.now 11,byC z.v.now 12,byC z.v.now 13,byC z.v.now 14,byC z.v.now 15, .bool z.v.op,slv z.a1 z.v.may.length z.c1,slv z.a2 z.v.ever.length z.c2]
theorem MSl.cells_len (z:MSl):z.cells.length=19:=rfl
def MSl.m1 (z:MSl):Atom:=c9 30 16 z.a1 z.v.may.length z.c1 (x6 z.v.may)
def MSl.m2 (z:MSl):Atom:=c9 30 16 z.a2 z.v.ever.length z.c2 (x6 z.v.ever)
def a6t (q g:Nat) (Z:List MSl):List Atom:=[.pt q 168 [.slice (some ⟨g,0,none⟩) Z.length Z.length], .pt g 170 (Z.flatMap MSl.cells), .hp (HP.of (Z.map MSl.m1)), .hp (HP.of (Z.map MSl.m2))]
def Mv.adr (n g:Nat) (i:Int):Option Addr:=if 0<=i/\i<n then some ⟨g,i.toNat*19,none⟩else none
theorem b5K (q g n:Nat) (hn:n<=65536) (i:Int):FP 96 [pp q,iI i] [.pt q 168 [.slice (some ⟨g,0,none⟩) n n]] (Ps (.pointer (Mv.adr n g i)) [.pt q 168 [.slice (some ⟨g,0,none⟩) n n]]):=by
 refine FE [2,0] Tryz.func96 λX F hX=>?_;refine J.qd (λ_ h1=>?_) λ_ h1=>?_
 ·simp only[Bool.false_or,Bool.or_eq_true,decide_eq_true_eq,ge_iff_le]at h1;have ha:Mv.adr n g i=none:=by unfold Mv.adr;rw[if_neg (by omega)]
  refine J.qr [1] λ_=>?_;rw[ha];exact⟨rfl,rfl⟩
 ·simp only[Bool.false_or,Bool.or_eq_false_iff,decide_eq_false_iff_not,ge_iff_le]at h1;have ha:Mv.adr n g i=some ⟨g,i.toNat*19,none⟩:=by unfold Mv.adr;rw[if_pos (by omega)]
  refine J.qr [1] λ_=>?_;rw[ha];exact⟨by simp,rfl⟩
def MSl.none0:MSl:=⟨⟨Mv.z16,false,[],[]⟩,none,0,none,0⟩
theorem MSl.cells_zero (m:Nat):(List.replicate m [Value.int .u8 0, .int .u8 0, .int .u8 0, .int .u8 0, .int .u8 0, .int .u8 0, .int .u8 0, .int .u8 0, .int .u8 0, .int .u8 0, .int .u8 0, .int .u8 0, .int .u8 0, .int .u8 0, .int .u8 0, .int .u8 0, .bool false, .slice none 0 0, .slice none 0 0]).flatten=(List.replicate m MSl.none0).flatMap MSl.cells:=by
 induction m with
 | zero=>rfl
 | succ m ih=>rw[List.replicate_succ,List.replicate_succ,List.flatten_cons,List.flatMap_cons,ih];rfl
theorem MSl.flat_len (Z:List MSl):(Z.flatMap MSl.cells).length=19*Z.length:=by
 induction Z with
 | nil=>rfl
 | cons z Z ih=>rw[List.flatMap_cons,List.length_append,ih,MSl.cells_len,List.length_cons];omega
theorem MSl.hps (m:Nat) (h:Hl):Sep [.hp (HP.of ((List.replicate m MSl.none0).map MSl.m1)), .hp (HP.of ((List.replicate m MSl.none0).map MSl.m2))] h:=by
 refine Sep.ofAll λA hA h=>?_;have hx:∀f:MSl->Atom,(∀h,(f MSl.none0).sat h)->(Atom.hp (HP.of ((List.replicate m MSl.none0).map f))).sat h:=λf hf=>by
  exact(Sep.hpOf.2 (Sep.ofAll λA hA h=>by
   rw[List.map_replicate,List.mem_replicate]at hA;rw[hA.2];exact hf h)).get (i:=0) rfl
 simp only[List.mem_cons,List.not_mem_nil,or_false]at hA;rcases hA with rfl | rfl
 ·exact hx MSl.m1 λh=>⟨rfl,rfl,rfl⟩
 ·exact hx MSl.m2 λh=>⟨rfl,rfl,rfl⟩
theorem b6o (n:Int):FP 47 [iI n] [] (λv As=>∃q g Z,v=pp q/\As=a6t q g Z/\Z.map (·.v)=Mv.new n):=by
 refine FE [0] Tryz.func47 λX F hX=>?_;refine J.qn 9 λ_=>?_;rw[b1z];obtain⟨m,hm⟩:∃m:Nat,min (max n 0) 65536=(m:Int):=⟨(min (max n 0) 65536).toNat,by omega⟩;have hm1:m<=65536:=by omega
 rw[hm];refine J.mk 2 λg=>?_;have hz:(List.replicate m _).flatten=(List.replicate m MSl.none0).flatMap MSl.cells:=MSl.cells_zero m;rw[hz];refine J.q λbq=>?_;refine J.turn1 [] rfl (As:=[.hp (HP.of ((List.replicate m MSl.none0).map MSl.m1)), .hp (HP.of ((List.replicate m MSl.none0).map MSl.m2))]) (λh s=>MSl.hps m h) rfl ?_;refine J.q λ_=>?_;refine J.l (α:=(Nat×List MSl)) (λz=>z.1<=m/\z.2.length=m/\z.2.map (·.v)=List.replicate z.1 Mv.page0++List.replicate (m-z.1) MSl.none0.v) (λz=>[si 16 z.1,si 15 m,⟨3,pp (bq 0),3, .tt⟩]) [1,3,4] (λz=>[.pt g 170 (z.2.flatMap MSl.cells), .hp (HP.of (z.2.map MSl.m1)), .hp (HP.of (z.2.map MSl.m2))]) (λz=>m-z.1) ((0,List.replicate m MSl.none0)) (⟨Nat.zero_le _,List.length_replicate,by simp⟩) λz hI=>?_;obtain⟨k,Z⟩:=z;dsimp only at hI ⊢;obtain⟨hk,hZl,hZ⟩:=hI;refine J.qd (λ_ h1=>?_) λ_ h1=>?_
 ·simp only[decide_eq_true_eq,Int.ofNat_lt]at h1;obtain⟨z,hz⟩:∃z,Z[k]? =some z:=⟨_,List.getElem?_eq_getElem (by omega)⟩;refine J.openAt 3 k rfl rfl (by rw[List.getElem?_map,hz];rfl) rfl ?_;refine J.openAt 4 k rfl rfl (by rw[List.getElem?_map,hz];rfl) rfl ?_;refine J.p (.take true 0 (.take true 1 (.take true 2 (.take false 3 (.take true 4 (.take true 5 (.take true 6 (.take true 7 (.take false 8 (.take true 9 (.alt false 10 ((.take true 12 (.take true 13 (.alt false 11 ((.of [58,60,64,71])) (.alt false 14 ((.of [46,60,64,71])) .non))))) (.alt false 11 ((.of [42,48,52,58,60,64,71])) .non)))))))))))) [15,16,17] [2] λ_=>?_;have hoff:∀j,0+(k:Int).toNat*19+j=k*19+j:=λj=>by omega
  have hlt:∀j,j<19->0+(k:Int).toNat*19+j<(Z.flatMap MSl.cells).length:=λj hj=>by
   rw[MSl.flat_len,hoff];have:k*19+19<=19*Z.length:=by omega
   omega
  have B2:∀y:MSl,(Z.set k y)[k]? =some y:=λy=>by rw[List.getElem?_set,if_pos rfl,if_pos (by omega)]
  refine J.join (α:=Nat×Nat) (λ_=>[si 16 k,si 15 m,⟨3,pp (bq 0),3, .tt⟩]) (λx=>[.hp F, .pt g 170 ((Z.set k ⟨⟨z.v.now,z.v.op,[Mv.z16],[Mv.z16]⟩,some x.1,1,some x.2,1⟩).flatMap MSl.cells), .pt (bq 0) 168 [.slice (some ⟨g,0,none⟩) m m], .hp (HP.of ((Z.map MSl.m1).set k .emp)), .hp (HP.of ((Z.map MSl.m2).set k .emp)),c9 30 16 (some x.1) 1 1 (x6 [Mv.z16]),c9 30 16 (some x.2) 1 1 (x6 [Mv.z16])]) (λhj=>?_) (λx=>?_)
  ·refine J.q λ_=>?_;refine J.alts ?_ ?_
   ·skip
    refine J.mk 8 λga=>?_;refine J.cO 30 16 1 1 (x6 [Mv.z16]) 7 ?_;refine J.q λ_=>?_;refine J.alts ?_ ?_
    ·skip
     refine J.mk 9 λgb=>?_;refine J.cO 30 16 1 1 (x6 [Mv.z16]) 8 ?_;refine J.s1 1 ((Z.set k ⟨⟨z.v.now,z.v.op,[Mv.z16],z.v.ever⟩,some ga,1,z.a2,z.c2⟩).flatMap MSl.cells) ?_ ?_ ?_
     ·exact hlt 17 (by omega)
     ·rw[hoff 17];exact x7 MSl.cells 19 MSl.cells_len 17 _ hz (by omega) rfl
     refine J.qn 2 λ_=>?_;refine J.s1 1 ((Z.set k ⟨⟨z.v.now,z.v.op,[Mv.z16],[Mv.z16]⟩,some ga,1,some gb,1⟩).flatMap MSl.cells) ?_ ?_ ?_
     ·rw[MSl.flat_len,List.length_set,<- MSl.flat_len];exact hlt 18 (by omega)
     ·rw[hoff 18];exact(x7 MSl.cells 19 MSl.cells_len 18 (y:=⟨⟨z.v.now,z.v.op,[Mv.z16],[Mv.z16]⟩,some ga,1,some gb,1⟩) _ (B2 ⟨⟨z.v.now,z.v.op,[Mv.z16],z.v.ever⟩,some ga,1,z.a2,z.c2⟩) (by omega) rfl).trans (by rw[List.set_set])
     exact J.goto [0,1,2,3,4,7,8] (hj (ga,gb)) ⟨rfl,rfl,rfl,trivial⟩ rfl rfl
    ·skip
     refine J.s1 1 ((Z.set k ⟨⟨z.v.now,z.v.op,[Mv.z16],z.v.ever⟩,some ga,1,z.a2,z.c2⟩).flatMap MSl.cells) ?_ ?_ ?_
     ·exact hlt 17 (by omega)
     ·rw[hoff 17];exact x7 MSl.cells 19 MSl.cells_len 17 _ hz (by omega) rfl
     refine J.mk 9 λgb=>?_;refine J.cO 30 16 1 1 (x6 [Mv.z16]) 8 ?_;refine J.qn 2 λ_=>?_;refine J.s1 1 ((Z.set k ⟨⟨z.v.now,z.v.op,[Mv.z16],[Mv.z16]⟩,some ga,1,some gb,1⟩).flatMap MSl.cells) ?_ ?_ ?_
     ·rw[MSl.flat_len,List.length_set,<- MSl.flat_len];exact hlt 18 (by omega)
     ·rw[hoff 18];exact(x7 MSl.cells 19 MSl.cells_len 18 (y:=⟨⟨z.v.now,z.v.op,[Mv.z16],[Mv.z16]⟩,some ga,1,some gb,1⟩) _ (B2 ⟨⟨z.v.now,z.v.op,[Mv.z16],z.v.ever⟩,some ga,1,z.a2,z.c2⟩) (by omega) rfl).trans (by rw[List.set_set])
     exact J.goto [0,1,2,3,4,7,8] (hj (ga,gb)) ⟨rfl,rfl,rfl,trivial⟩ rfl rfl
   ·skip
    refine J.mk 8 λgb=>?_;refine J.cO 30 16 1 1 (x6 [Mv.z16]) 7 ?_;refine J.mk 9 λga=>?_;refine J.cO 30 16 1 1 (x6 [Mv.z16]) 8 ?_;refine J.qn 2 λ_=>?_;refine J.s1 1 ((Z.set k ⟨⟨z.v.now,z.v.op,[Mv.z16],z.v.ever⟩,some ga,1,z.a2,z.c2⟩).flatMap MSl.cells) ?_ ?_ ?_
    ·exact hlt 17 (by omega)
    ·rw[hoff 17];exact x7 MSl.cells 19 MSl.cells_len 17 _ hz (by omega) rfl
    refine J.qn 2 λ_=>?_;refine J.s1 1 ((Z.set k ⟨⟨z.v.now,z.v.op,[Mv.z16],[Mv.z16]⟩,some ga,1,some gb,1⟩).flatMap MSl.cells) ?_ ?_ ?_
    ·rw[MSl.flat_len,List.length_set,<- MSl.flat_len];exact hlt 18 (by omega)
    ·rw[hoff 18];exact(x7 MSl.cells 19 MSl.cells_len 18 (y:=⟨⟨z.v.now,z.v.op,[Mv.z16],[Mv.z16]⟩,some ga,1,some gb,1⟩) _ (B2 ⟨⟨z.v.now,z.v.op,[Mv.z16],z.v.ever⟩,some ga,1,z.a2,z.c2⟩) (by omega) rfl).trans (by rw[List.set_set])
    exact J.goto [0,1,2,3,4,8,7] (hj (ga,gb)) ⟨rfl,rfl,rfl,trivial⟩ rfl rfl
  obtain⟨ga,gb⟩:=x;dsimp only;obtain⟨y,hy⟩:∃y:MSl,y=⟨⟨z.v.now,z.v.op,[Mv.z16],[Mv.z16]⟩,some ga,1,some gb,1⟩:=⟨_,rfl⟩;rw[<- hy,show c9 30 16 (some ga) 1 1 (x6 [Mv.z16])=y.m1 from by rw[hy];rfl,show c9 30 16 (some gb) 1 1 (x6 [Mv.z16])=y.m2 from by rw[hy];rfl];refine J.closeAt (A:=y.m1) 3 5 k rfl rfl rfl ?_;refine J.closeAt (A:=y.m2) 4 6 k rfl rfl rfl ?_;rw[<- List.map_set,<- List.map_set];have hzv:z.v=MSl.none0.v:=by
   have h2:(Z.map (·.v))[k]? =some z.v:=by rw[List.getElem?_map,hz];rfl
   rw[hZ,List.getElem?_append_right (by simp),List.length_replicate,List.getElem?_replicate,if_pos (by omega)]at h2;injection h2 with h2;exact h2.symm
  have hyv:y.v=Mv.page0:=by rw[hy];show(⟨z.v.now,z.v.op,[Mv.z16],[Mv.z16]⟩:MPv)=_;rw[hzv];rfl
  have hZ2:(Z.set k y).map (·.v)=List.replicate (k+1) Mv.page0++List.replicate (m-(k+1)) MSl.none0.v:=by
   rw[List.map_set,hZ,hyv,show m-k=(m-(k+1))+1 from by omega,List.replicate_succ (n:=m-(k+1)),List.set_append_right _ _ (by simp),List.length_replicate,Nat.sub_self,List.set_cons_zero,List.replicate_succ' (n:=k),List.append_assoc];rfl
  refine J.q λ_=>?_;refine J.n ((k+1,Z.set k y)) (⟨by dsimp only;omega,by dsimp only;rw[List.length_set];exact hZl,hZ2⟩) (by dsimp only;omega) [0,1,2,3,4]
 simp only[decide_eq_false_iff_not,Int.ofNat_lt]at h1;obtain rfl:k=m:=by omega
 refine J.qr [2,1,3,4] λ_=>?_;refine⟨bq 0,g,Z,rfl,?_,?_⟩
 ·rw[<- hZl];rfl
 ·rw[hZ,Nat.sub_self];unfold Mv.new;rw[hm];simp
structure Pad where
 f:Nat
 p:Nat
 t:Nat
 l:Nat
 d:Nat
 fp:Nat
 a:Option (Nat×Nat)
 c:Nat
 a2:Option Nat
 c2:Nat
def tdC (t:Td):List Value:=[iI t.err,byC t.data 0,byC t.data 1,byC t.data 2,byC t.data 3,byC t.data 4,byC t.data 5,byC t.data 6,byC t.data 7,byC t.data 8,byC t.data 9,byC t.data 10,byC t.data 11,byC t.data 12,byC t.data 13,byC t.data 14,byC t.data 15]
def tdV (t:Td):Value:= .agg (tdC t).toArray
def A9 (l:List Td):List Value:=l.flatMap tdC
def flP (o:Option Fv) (f:Nat):Value:=match o with | some _=>pp f | none=> .pointer none
def a0k (n:Nat) (A:Pad) (P:Pv):List Atom:=match P.Z with | some Z=>FvP A.f A.p n A.t A.l A.d Z | none=>[i4 n P.M]
def T9 (q n:Nat) (A:Pad) (P:Pv):List Atom:=[.pt q 97 [pp n,flP P.Z A.f,pp A.fp,slv A.a2 P.log.length A.c2], .pt A.fp 176 [.slice (A4 A.a) P.L.length A.c],rdA (A4 A.a) 7 P.L.length (f9 P.L),c9 50 17 A.a2 P.log.length A.c2 (A9 P.log)]++a0k n A P
structure Pad.Ok (A:Pad) (P:Pv):Prop where
 z:A.a=none->A.c=0
 c:P.L.length<=A.c
theorem b4x (q n:Nat) (r:Value) (r2 r3:Value):FP 15 [pp q] [.pt q 97 [pp n,r,r2,r3]] (λv As=>v=pp n/\As=[.pt q 97 [pp n,r,r2,r3]]):=by
 refine FE [2] Tryz.func15 λX F hX=>?_;refine J.qF λ_=>?_;exact J.qx [1]
theorem b1X (q n:Nat) (o:Option Fv) (f:Nat) (r2 r3:Value):FP 24 [pp q] [.pt q 97 [pp n,flP o f,r2,r3]] (λv As=>v=flP o f/\As=[.pt q 97 [pp n,flP o f,r2,r3]]):=by
 refine FE [2] Tryz.func24 λX F hX=>?_;refine J.qF λ_=>?_;cases o with
 | none=>
  exact J.qx [1]
 | some Z=>
  exact J.qx [1]
theorem a9a (a:Option Nat):oad a=A4 (a.map λg=>(g,0)):=by cases a<;>rfl
theorem a6u (d b p:Nat) (h:y6 d b p=true) (k:Nat) (hk:k<4611686018427387904):(Nand.new d b p).Gd k 0:=by
 have g:=Nand.Gd.new d b p h 0 (by omega);exact⟨g.ok,by show(0:Int)+k<_;omega,by show(0:Int)+k<_;omega,g.nodup,g.few⟩
theorem b1W (D B Pg:Nat) (hg:y6 D B Pg=true) (A:Atom) (ad:Option Addr) (n c:Nat) (l:List Fl) (hA:Rd A ad 7 n (f9 l)) (hl:l.length=n) (hn:n<=15):FP 18 [.agg #[iI D,iI B,iI Pg], .slice ad n c] [A] (λv As=>∃q nn A',v=pp q/\A'.Ok (Pv.new D B Pg l)/\As=A::T9 q nn A' (Pv.new D B Pg l)):=by
 have hbd:(3<=D/\D<=6)/\(8<=B/\B<=16)/\(2<=Pg/\Pg<=8):=by simp[y6]at hg;omega
 refine FE [0,0] Tryz.func18 λX F hX=>?_;refine J.qc (a4L D B Pg hg) [] λ_=>?_;rintro v As ⟨nn,rfl,rfl⟩;refine⟨_,rfl,trivial,?_⟩;refine J.qF λ_=>?_;have hG:(Nand.new D B Pg).Gd (Dv.costK+0) 0:=a6u D B Pg hg _ (by decide);refine J.qc (Y6 nn (Nand.new D B Pg) 0 0 hG (by decide) rfl) [3] λ_=>?_;have hlen:(B6 V7 (plF D B Pg l)).length=(plF D B Pg l).length:=(a1Y _ _).length_eq;rintro v As (⟨he,f,p,t,ll,d,rfl,rfl⟩ | ⟨he,rfl,rfl⟩)
 ·refine⟨_,rfl,trivial,?_⟩;refine J.qc (b5A D B Pg (by omega) (by omega) (by omega) A ad n c l hA hl hn) [1] λ_=>?_;rintro v As ⟨fp,a,c',rfl,rfl⟩;refine⟨_,rfl,trivial,?_⟩;refine J.know (λh' s=>I9 (show J5 _ _ a (plF D B Pg l).length c' _ _ from s.get (i:=10) rfl)) λhcap=>?_;refine J.know (λh' s=>a3j (show J5 _ _ a (plF D B Pg l).length c' _ _ from s.get (i:=10) rfl)) λhnil=>?_;have hsl:∀n c,slv a n c= .slice (A4 (a.map λg=>(g,0))) n c:=λn c=>by cases a<;>rfl
  rw[hsl];refine J.turn1 [10] rfl (As:=[rdA (A4 (a.map λg=>(g,0))) 7 (plF D B Pg l).length (f9 (B6 V7 (plF D B Pg l)))]) (λh s=>Sep.one (by have:=D0 34 7 a (plF D B Pg l).length c' (f9 (B6 V7 (plF D B Pg l))) _ (s.get (i:=0) rfl);rw[a9a]at this;exact this)) rfl ?_;refine J.turn1 [] rfl (As:=[c9 50 17 none 0 0 (A9 [])]) (λh s=>Sep.one ⟨rfl,rfl,rfl⟩) rfl ?_;refine J.q λbq=>?_;refine J.ru hX [1,12,9,10,11,3,4,5,6,7,8] ?_;refine⟨bq 0,nn,⟨f,p,t,ll,d,fp,a.map λg=>(g,0),c',none,0⟩,rfl,⟨λe=>hnil (by cases a with | none=>rfl | some g=>cases e),by show(B6 V7 (plF D B Pg l)).length<=_;rw[hlen];exact hcap⟩,?_⟩;unfold T9 a0k;show _=A::([.pt (bq 0) 97 [pp nn,flP (if(u0 (Nand.new D B Pg)).2=0 then some (Fv.of (u0 (Nand.new D B Pg)).1)else none) _,_,_], .pt fp _ [.slice _ (B6 V7 (plF D B Pg l)).length _],rdA _ 7 (B6 V7 (plF D B Pg l)).length _,_]++(match(if(u0 (Nand.new D B Pg)).2=0 then some (Fv.of (u0 (Nand.new D B Pg)).1)else none)with | some Z=>_ | none=>_));rw[if_pos he,hlen];rfl
 ·refine⟨_,rfl,trivial,?_⟩;refine J.qc (b5A D B Pg (by omega) (by omega) (by omega) A ad n c l hA hl hn) [1] λ_=>?_;rintro v As ⟨fp,a,c',rfl,rfl⟩;refine⟨_,rfl,trivial,?_⟩;refine J.know (λh' s=>I9 (show J5 _ _ a (plF D B Pg l).length c' _ _ from s.get (i:=5) rfl)) λhcap=>?_;refine J.know (λh' s=>a3j (show J5 _ _ a (plF D B Pg l).length c' _ _ from s.get (i:=5) rfl)) λhnil=>?_;have hsl:∀n c,slv a n c= .slice (A4 (a.map λg=>(g,0))) n c:=λn c=>by cases a<;>rfl
  rw[hsl];refine J.turn1 [5] rfl (As:=[rdA (A4 (a.map λg=>(g,0))) 7 (plF D B Pg l).length (f9 (B6 V7 (plF D B Pg l)))]) (λh s=>Sep.one (by have:=D0 34 7 a (plF D B Pg l).length c' (f9 (B6 V7 (plF D B Pg l))) _ (s.get (i:=0) rfl);rw[a9a]at this;exact this)) rfl ?_;refine J.turn1 [] rfl (As:=[c9 50 17 none 0 0 (A9 [])]) (λh s=>Sep.one ⟨rfl,rfl,rfl⟩) rfl ?_;refine J.q λbq=>?_;refine J.ru hX [1,7,4,5,6,3] ?_;refine⟨bq 0,nn,⟨0,0,0,0,0,fp,a.map λg=>(g,0),c',none,0⟩,rfl,⟨λe=>hnil (by cases a with | none=>rfl | some g=>cases e),by show(B6 V7 (plF D B Pg l)).length<=_;rw[hlen];exact hcap⟩,?_⟩;unfold T9 a0k;show _=A::([.pt (bq 0) 97 [pp nn,flP (if(u0 (Nand.new D B Pg)).2=0 then some (Fv.of (u0 (Nand.new D B Pg)).1)else none) _,_,_], .pt fp _ [.slice _ (B6 V7 (plF D B Pg l)).length _],rdA _ 7 (B6 V7 (plF D B Pg l)).length _,_]++(match(if(u0 (Nand.new D B Pg)).2=0 then some (Fv.of (u0 (Nand.new D B Pg)).1)else none)with | some Z=>_ | none=>_));rw[if_neg he,hlen];rfl
def stC (s:Stp):List Value:=[iI s.fn,iI s.lpn,byC s.data 0,byC s.data 1,byC s.data 2,byC s.data 3,byC s.data 4,byC s.data 5,byC s.data 6,byC s.data 7,byC s.data 8,byC s.data 9,byC s.data 10,byC s.data 11,byC s.data 12,byC s.data 13,byC s.data 14,byC s.data 15,iI s.n,iI s.keep,iI s.f.at_,iI s.f.kind,iI s.f.x,iI s.f.y,iI s.f.z,iI s.f.n,iI s.f.xx]
def stV (s:Stp):Value:= .agg (stC s).toArray
def PlQ (q n:Nat) (o:Option Fv) (f:Nat) (r2 r3:Value):Atom:= .pt q 97 [pp n,flP o f,r2,r3]
theorem a9W (q n:Nat) (A:Pad) (P:Pv) (Z:Fv) (hZ:P.Z=some Z) (r2 r3:Value) (k m:Nat) (hG:Z.S.N.Gd (Dv.costK+k) m) (hm:m<=1000):FP 107 [pp q] (PlQ q n P.Z A.f r2 r3::a0k n A P) (λv As=>∃A':Pad,v=iI P.mounts.2/\(A'.fp=A.fp/\A'.a=A.a/\A'.c=A.c/\A'.a2=A.a2/\A'.c2=A.c2)/\((∃Y,P.mounts.1={P with Z:=some Y}/\As=PlQ q n (some Y) A'.f r2 r3::FvP A'.f A'.p n A'.t A'.l A'.d Y)\/∃M,P.mounts.1={P with Z:=none,M:=M}/\As=[PlQ q n none A'.f r2 r3,i4 n M])):=by
 have hnd:P.nd=Z.S.N:=by unfold Pv.nd;rw[hZ]
 have hms:P.mounts=if(u0 ((if Z.S.N.off then Z.S.N else Z.S.N.setCut (-1) 0).onN)).2=0 then({P with Z:=some (Fv.of (u0 ((if Z.S.N.off then Z.S.N else Z.S.N.setCut (-1) 0).onN)).1)},0)else({P with Z:=none,M:=(u0 ((if Z.S.N.off then Z.S.N else Z.S.N.setCut (-1) 0).onN)).1.N},(u0 ((if Z.S.N.off then Z.S.N else Z.S.N.setCut (-1) 0).onN)).2):=by unfold Pv.mounts;rw[hnd]
 rw[show a0k n A P=FvP A.f A.p n A.t A.l A.d Z from by unfold a0k;rw[hZ],hZ];refine FE [2] Tryz.func107 λX F hX=>?_;refine J.qp (a0N n Z.S.N) [4] λ_=>?_;refine J.qd (λ_ h1=>?_) λ_ h1=>?_
 ·have hoff:Z.S.N.off=false:=by simpa using h1
  have e:(if Z.S.N.off=true then Z.S.N else Z.S.N.setCut (-1) 0)=Z.S.N.setCut (-1) 0:=if_neg (by rw[hoff];decide);rw[e]at hms;have hG2:(Z.S.N.setCut (-1) 0).onN.Gd (Dv.costK+k) m:=(hG.cut (-1) 0 (by decide) (by decide)).on;refine J.qp (a9d n Z.S.N (-1) 0) [4] λ_=>?_;refine J.qp (b4K n (Z.S.N.setCut (-1) 0)) [4] λ_=>?_;refine J.qc (Y6 n ((Z.S.N.setCut (-1) 0)).onN k m hG2 hm rfl) [4] λ_=>?_;rintro v As (⟨he,f,p,t,ll,d,rfl,rfl⟩ | ⟨he,rfl,rfl⟩)
  ·refine⟨_,rfl,trivial,?_⟩;rw[if_pos he]at hms;refine J.qr [1,4,8,9,10,11,12] λ_=>?_;exact⟨⟨f,p,t,ll,d,A.fp,A.a,A.c,A.a2,A.c2⟩,by rw[hms],⟨rfl,rfl,rfl,rfl,rfl⟩, .inl ⟨_,by rw[hms],rfl⟩⟩
  ·refine⟨_,rfl,trivial,?_⟩;rw[if_neg he]at hms;refine J.qr [1,4] λ_=>?_;exact⟨A,by rw[hms],⟨rfl,rfl,rfl,rfl,rfl⟩, .inr ⟨_,by rw[hms],rfl⟩⟩
 ·have hoff:Z.S.N.off=true:=by simpa using h1
  have e:(if Z.S.N.off=true then Z.S.N else Z.S.N.setCut (-1) 0)=Z.S.N:=if_pos hoff;rw[e]at hms;have hG2:Z.S.N.onN.Gd (Dv.costK+k) m:=hG.on;refine J.qp (b4K n Z.S.N) [4] λ_=>?_;refine J.qc (Y6 n (Z.S.N).onN k m hG2 hm rfl) [4] λ_=>?_;rintro v As (⟨he,f,p,t,ll,d,rfl,rfl⟩ | ⟨he,rfl,rfl⟩)
  ·refine⟨_,rfl,trivial,?_⟩;rw[if_pos he]at hms;refine J.qr [1,4,8,9,10,11,12] λ_=>?_;exact⟨⟨f,p,t,ll,d,A.fp,A.a,A.c,A.a2,A.c2⟩,by rw[hms],⟨rfl,rfl,rfl,rfl,rfl⟩, .inl ⟨_,by rw[hms],rfl⟩⟩
  ·refine⟨_,rfl,trivial,?_⟩;rw[if_neg he]at hms;refine J.qr [1,4] λ_=>?_;exact⟨A,by rw[hms],⟨rfl,rfl,rfl,rfl,rfl⟩, .inr ⟨_,by rw[hms],rfl⟩⟩
theorem b4w (q n:Nat) (A:Pad) (P:Pv) (Z:Fv) (hZ:P.Z=some Z) (r2 r3:Value) (k m:Nat) (hO:Z.Ok (Fv.cW*200+(Dv.costS+(Dv.costK+(1+k)))) m) (hm:m<=1000) (s:Stp) (hs:s.data.length=16):FP 64 [pp q,stV s] (PlQ q n P.Z A.f r2 r3::a0k n A P) (λv As=>∃A':Pad,v=tdV (P.does s).2/\(A'.fp=A.fp/\A'.a=A.a/\A'.c=A.c/\A'.a2=A.a2/\A'.c2=A.c2)/\((∃Y,(P.does s).1={P with Z:=some Y}/\As=PlQ q n (some Y) A'.f r2 r3::FvP A'.f A'.p n A'.t A'.l A'.d Y)\/∃M,(P.does s).1={P with Z:=none,M:=M}/\As=[PlQ q n none A'.f r2 r3,i4 n M])):=by
 have hnd:P.nd=Z.S.N:=by unfold Pv.nd;rw[hZ]
 have hdv:∀Y,a0k n A {P with Z:=some Y}=FvP A.f A.p n A.t A.l A.d Y:=λY=>rfl;have hs1:∀b,s.fn=b->True:=λ_ _=>trivial;rw[show a0k n A P=FvP A.f A.p n A.t A.l A.d Z from by unfold a0k;rw[hZ],hZ];refine FE [2,0] Tryz.func64 λX F hX=>?_;refine J.qd (λ_ h1=>?_) λ_ h1=>?_
 ·have e1:s.fn=1:=by simpa using h1
  have hd:P.does s=({P with Z:=some (Z.read s.lpn).1},⟨(Z.read s.lpn).2.2,(Z.read s.lpn).2.1⟩):=by unfold Pv.does;rw[if_pos e1,hZ]
  refine J.pn 7 (.take true 0 (.take true 1 (.take true 2 (.take false 3 (.take true 4 (.take false 5 (.alt false 6 ((.of [28,32,36,42,46,48])) (.alt false 10 ((.of [26,28,32,36,46,48])) .non)))))))) [12] [1,8] λ_ _=>?_;refine J.alts ?_ ?_
  ·skip
   refine J.qp (a0f A.f A.p n A.t A.l A.d Z _ m hO s.lpn) [2,3,4,5,6,7] λ_=>?_;refine J.qr [1,2,3,4,5,6,7] λ_=>?_;refine⟨A,?_,⟨rfl,rfl,rfl,rfl,rfl⟩, .inl ⟨_,by rw[hd],rfl⟩⟩;rw[hd];rfl
  ·skip
   refine J.qn 1 λ_=>?_;refine J.qp (a0f A.f A.p n A.t A.l A.d Z _ m hO s.lpn) [2,3,4,5,6,7] λ_=>?_;refine J.qr [1,2,3,4,5,6,7] λ_=>?_;refine⟨A,?_,⟨rfl,rfl,rfl,rfl,rfl⟩, .inl ⟨_,by rw[hd],rfl⟩⟩;rw[hd];rfl
 have e1:s.fn≠1:=by simpa using h1
 refine J.qd (λ_ h2=>?_) λ_ h2=>?_
 ·have e2:s.fn=2:=by simpa using h2
  have hd:P.does s=({P with Z:=some (Z.write s.lpn s.data).1},⟨(Z.write s.lpn s.data).2,zd⟩):=by unfold Pv.does;rw[if_neg e1,if_pos e2,hZ]
  refine J.pq (.of [0,4,8,13,16,21,24,29,34,36,43]) [10] [1,8] λ_ _=>?_;refine J.ca hX (by kernel_rfl) (a3D A.f A.p n A.t A.l A.d Z _ m (hO.less (k':=Fv.cW+(1+k)) (by omega)) hm s.lpn s.data hs) [2,3,4,5,6,7] 0 rfl rfl rfl rfl rfl rfl (λ_=>rfl) ?_;refine cpq ⟨_,rfl,stq,?_⟩;refine J.qr [1,2,3,4,5,6,7] λ_=>?_;refine⟨A,?_,⟨rfl,rfl,rfl,rfl,rfl⟩, .inl ⟨_,by rw[hd],rfl⟩⟩;rw[hd];rfl
 have e2:s.fn≠2:=by simpa using h2
 refine J.qd (λ_ h3=>?_) λ_ h3=>?_
 ·have e3:s.fn=3:=by simpa using h3
  have hd:P.does s=({P with Z:=some (Z.trim s.lpn).1},⟨(Z.trim s.lpn).2,zd⟩):=by unfold Pv.does;rw[if_neg e1,if_neg e2,if_pos e3,hZ]
  refine J.pq (.of [0,4,8,13,16,21,26,28,35]) [8] [1,8] λ_ _=>?_;refine J.ca hX (by kernel_rfl) (a9o A.f A.p n A.t A.l A.d Z _ m (hO.less (k':=Fv.cW+(1+k)) (by omega)) hm s.lpn) [2,3,4,5,6,7] 0 rfl rfl rfl rfl rfl rfl (λ_=>rfl) ?_;refine cpq ⟨_,rfl,stq,?_⟩;refine J.qr [1,2,3,4,5,6,7] λ_=>?_;refine⟨A,?_,⟨rfl,rfl,rfl,rfl,rfl⟩, .inl ⟨_,by rw[hd],rfl⟩⟩;rw[hd];rfl
 have e3:s.fn≠3:=by simpa using h3
 refine J.qd (λ_ h4=>?_) λ_ h4=>?_
 ·have e4:s.fn=4:=by simpa using h4
  have hd:P.does s=({P with Z:=some Z.flush.1},⟨Z.flush.2,zd⟩):=by unfold Pv.does;rw[if_neg e1,if_neg e2,if_neg e3,if_pos e4,hZ]
  refine J.q λ_=>?_;refine J.ca hX (by kernel_rfl) (a7u A.f A.p n A.t A.l A.d Z _ m (hO.less (k':=Fv.cW*200+k) (by omega)) hm) [2,3,4,5,6,7] 0 rfl rfl rfl rfl rfl rfl (λ_=>rfl) ?_;refine cpq ⟨_,rfl,trivial,?_⟩;refine J.qr [1,2,3,4,5,6,7] λ_=>?_;refine⟨A,?_,⟨rfl,rfl,rfl,rfl,rfl⟩, .inl ⟨_,by rw[hd],rfl⟩⟩;rw[hd];rfl
 have e4:s.fn≠4:=by simpa using h4
 refine J.qd (λ_ h5=>?_) λ_ h5=>?_
 ·have e5:s.fn=5:=by simpa using h5
  have hd:P.does s=({P with Z:=some Z.tick.1},⟨Z.tick.2,zd⟩):=by unfold Pv.does;rw[if_neg e1,if_neg e2,if_neg e3,if_neg e4,if_pos e5,hZ]
  refine J.q λ_=>?_;refine J.ca hX (by kernel_rfl) (a9p A.f A.p n A.t A.l A.d Z _ m (hO.less (k':=Dv.costS+k) (by omega)) hm) [2,3,4,5,6,7] 0 rfl rfl rfl rfl rfl rfl (λ_=>rfl) ?_;refine cpq ⟨_,rfl,trivial,?_⟩;refine J.qr [1,2,3,4,5,6,7] λ_=>?_;refine⟨A,?_,⟨rfl,rfl,rfl,rfl,rfl⟩, .inl ⟨_,by rw[hd],rfl⟩⟩;rw[hd];rfl
 have e5:s.fn≠5:=by simpa using h5
 refine J.qd (λ_ h6=>?_) λ_ h6=>?_
 ·have e6:s.fn=6:=by simpa using h6
  have hd:P.does s=(P.setN (Z.S.N.setCut s.n s.keep),⟨0,zd⟩):=by unfold Pv.does;rw[if_neg e1,if_neg e2,if_neg e3,if_neg e4,if_neg e5,if_pos e6,hnd]
  have hsn:P.setN (Z.S.N.setCut s.n s.keep)={P with Z:=some (Z.setN (Z.S.N.setCut s.n s.keep))}:=by unfold Pv.setN;rw[hZ]
  rw[hsn]at hd;refine J.p (.of [0,4,8,13,16,21,24,29,34]) [] [1,8] λ_=>?_;refine J.qp (a9d n Z.S.N s.n s.keep) [4] λ_=>?_;refine J.qr [1,2,3,4,5,6,7] λ_=>?_;refine⟨A,?_,⟨rfl,rfl,rfl,rfl,rfl⟩, .inl ⟨_,by rw[hd],rfl⟩⟩;rw[hd];rfl
 have e6:s.fn≠6:=by simpa using h6
 refine J.qd (λ_ h7=>?_) λ_ h7=>?_
 ·have e7:s.fn=7:=by simpa using h7
  have hd:P.does s=(P.mounts.1,⟨P.mounts.2,zd⟩):=by unfold Pv.does;rw[if_neg e1,if_neg e2,if_neg e3,if_neg e4,if_neg e5,if_neg e6,if_pos e7]
  have hmm:=a9W q n A P Z hZ r2 r3 _ m (hO.dv.gd.less (k':=Dv.costK+(1+k)) (by omega) (Nat.le_refl m)) hm;rw[show a0k n A P=FvP A.f A.p n A.t A.l A.d Z from by unfold a0k;rw[hZ],hZ]at hmm;refine J.qc (hmm) [1,2,3,4,5,6,7] λ_=>?_;rintro v As ⟨A',rfl,hA',(⟨Y,hY,rfl⟩ | ⟨M,hY,rfl⟩)⟩
  ·refine⟨_,rfl,trivial,?_⟩;refine J.qr [1,2,3,4,5,6,7] λ_=>?_;refine⟨A',?_,hA', .inl ⟨Y,by rw[hd,hY],rfl⟩⟩;rw[hd];rfl
  ·refine⟨_,rfl,trivial,?_⟩;refine J.qr [1,2] λ_=>?_;refine⟨A',?_,hA', .inr ⟨M,by rw[hd,hY],rfl⟩⟩;rw[hd];rfl
 have e7:s.fn≠7:=by simpa using h7
 refine J.qd (λ_ h8=>?_) λ_ h8=>?_
 ·have e8:s.fn=8:=by simpa using h8
  obtain⟨Q,hQ⟩:∃Q,Q=Z.S.N.fault s.f.kind s.f.x s.f.y s.f.z s.f.n s.f.xx:=⟨_,rfl⟩;have hd:P.does s=({P with Z:=some (Z.setN Q.2)},if Q.1 then⟨0,zd⟩else⟨1,zd⟩):=by unfold Pv.does;rw[if_neg e1,if_neg e2,if_neg e3,if_neg e4,if_neg e5,if_neg e6,if_neg e7,if_pos e8,hnd,<- hQ];unfold Pv.setN;rw[hZ]
  refine J.p (.of [0,4,8,13,16,21,26]) [] [1,8] λ_=>?_;refine J.qp (a0c n Z.S.N hO.dv.gd.ok s.f.at_ s.f.kind s.f.x s.f.y s.f.z s.f.n s.f.xx) [4] λ_=>?_;rw[<- hQ];refine J.qd (λ_ h9=>?_) λ_ h9=>?_
  ·rw[if_pos h9]at hd;refine J.qr [1,2,3,4,5,6,7] λ_=>?_;refine⟨A,?_,⟨rfl,rfl,rfl,rfl,rfl⟩, .inl ⟨_,by rw[hd],rfl⟩⟩;rw[hd];rfl
  ·rw[if_neg (by rw[h9];decide)]at hd;refine J.qr [1,2,3,4,5,6,7] λ_=>?_;refine⟨A,?_,⟨rfl,rfl,rfl,rfl,rfl⟩, .inl ⟨_,by rw[hd],rfl⟩⟩;rw[hd];rfl
 have e8:s.fn≠8:=by simpa using h8
 have hd:P.does s=(P,⟨1,zd⟩):=by unfold Pv.does;rw[if_neg e1,if_neg e2,if_neg e3,if_neg e4,if_neg e5,if_neg e6,if_neg e7,if_neg e8]
 refine J.qr [1,2,3,4,5,6,7] λ_=>?_;refine⟨A,?_,⟨rfl,rfl,rfl,rfl,rfl⟩, .inl ⟨Z,?_,rfl⟩⟩
 ·rw[hd];rfl
 ·rw[hd];show P={P with Z:=some Z};rw[<- hZ]
theorem Dv.Ok.setN {S:Dv} {k m m':Nat} {N:Nand} (h:S.Ok k m) (hl:S.N.Like N) (hG:N.Gd k m'):({S with N:=N}:Dv).Ok k m':=⟨hG,h.t.like hl,h.T,h.sl,h.row,h.next⟩
theorem Fv.Ok.setN {Z:Fv} {k m m':Nat} {N:Nand} (h:Z.Ok k m) (hl:Z.S.N.Like N) (hG:N.Gd k m'):(Z.setN N).Ok k m':=⟨h.dv.setN hl hG,h.dat,λe he=>by have:=h.rng e he;unfold Fv.lg at this ⊢;rw[show(Z.setN N).S.N=N from rfl,a7j hl];exact this,h.nd,h.nx⟩
theorem a3x (N:Nand):∀(l:List Fl),N.Like (O1 N l)
 | []=>Nand.Like.refl N
 | f::l=>(Nand.like_fault N f.kind f.x f.y f.z f.n f.xx).trans (a3x (flN N f) l)
theorem a1f (l:List Td) (x:Td):A9 l++tdC x=A9 (l++[x]):=by unfold A9;rw[List.flatMap_append];simp
theorem a2z (q n:Nat) (A:Pad) (P:Pv) (hA:A.Ok P) (Z:Fv) (hZ:P.Z=some Z) (k m:Nat) (hO:Z.Ok (Fv.cW*200+(Dv.costS+(Dv.costK+(1+k)))) m) (hm:m+(B4 Z.S.N.ops P.L).length<=1000) (hL:P.L.length<=1000) (hlg:P.log.length<=1000) (s:Stp) (hs:s.data.length=16):FP 19 [pp q,stV s] (T9 q n A P) (λv As=>∃A':Pad,v=tdV (P.step s).2/\A'.Ok (P.step s).1/\As=T9 q n A' (P.step s).1):=by
 have hnd:P.nd=Z.S.N:=by unfold Pv.nd;rw[hZ]
 obtain⟨D,hD⟩:∃D,B4 Z.S.N.ops P.L=D:=⟨_,rfl⟩;obtain⟨R,hR⟩:∃R,Y0 Z.S.N.ops P.L=R:=⟨_,rfl⟩;rw[hD]at hm;have hrun:P.run=⟨R,P.log,some (Z.setN (O1 Z.S.N D)),P.M⟩:=by unfold Pv.run;rw[hnd,hD,hR];unfold Pv.setN;rw[hZ]
 have hO2:(Z.setN (O1 Z.S.N D)).Ok (Fv.cW*200+(Dv.costS+(Dv.costK+(1+k)))) (m+D.length):=hO.setN (a3x _ _) (a2C hO.dv.gd D);have hst:P.step s=({(P.run.does s).1 with log:=(P.run.does s).1.log++[(P.run.does s).2]},(P.run.does s).2):=rfl;unfold T9;rw[show a0k n A P=FvP A.f A.p n A.t A.l A.d Z from by unfold a0k;rw[hZ],hZ];refine FE [2,0] Tryz.func19 λX F hX=>?_;refine J.qF λ_=>?_;refine J.p (.of [0,4,8,13,16,20,24,29,34]) [] [1] λ_=>?_;refine J.qc (b6Y A.fp n A.a A.c P.L hA.z hA.c hL Z.S.N _ m hO.dv.gd) [2,3,7] λ_=>?_;rintro v As ⟨a',c',hz',hc',rfl,rfl⟩;refine⟨_,rfl,stq,?_⟩;rw[hR]at hc' ⊢;rw[hD];have hdo:=b4w q n A ⟨R,P.log,some (Z.setN (O1 Z.S.N D)),P.M⟩ (Z.setN (O1 Z.S.N D)) rfl (pp A.fp) (slv A.a2 P.log.length A.c2) k (m+D.length) hO2 hm s hs;rw[<- hrun]at hdo;rw[hrun]at hdo;obtain⟨W,hW⟩:∃W,(⟨R,P.log,some (Z.setN (O1 Z.S.N D)),P.M⟩:Pv).does s=W:=⟨_,rfl⟩;rw[hrun,hW]at hst;rw[hW]at hdo;obtain⟨Wp,wt⟩:=W;dsimp only at hdo hst;refine J.qc (hdo) [1,5,6,7,8,9,10] λ_=>?_;rintro v As ⟨A',rfl,⟨q1,q2,q3,q4,q5⟩,(⟨Y,hY,rfl⟩ | ⟨M,hY,rfl⟩)⟩
 ·refine⟨_,rfl,trivial,?_⟩;refine J.pq (.of [0,4,8,12,17,21,26,30,32,36,43]) [8,9,10] [1,13] λ_ _=>?_;refine J.ap 4 14 0 (a1f P.log wt) λa3 c3=>?_;refine J.qr [1,2,3,4,5,6,7,8,9,10] λ_=>?_;refine⟨⟨A'.f,A'.p,A'.t,A'.l,A'.d,A.fp,a',c',a3,c3⟩,?_,?_,?_⟩
  ·rw[hst];rfl
  ·rw[hst,hY];exact⟨hz',hc'⟩
  ·rw[hst,hY];dsimp only;rw[List.length_append];rfl
 ·refine⟨_,rfl,trivial,?_⟩;refine J.pq (.of [0,4,8,12,17,21,26,30,32,36,43]) [8,9,10] [1,13] λ_ _=>?_;refine J.ap 4 14 0 (a1f P.log wt) λa3 c3=>?_;refine J.qr [1,2,3,4,5] λ_=>?_;refine⟨⟨A'.f,A'.p,A'.t,A'.l,A'.d,A.fp,a',c',a3,c3⟩,?_,?_,?_⟩
  ·rw[hst];rfl
  ·rw[hst,hY];exact⟨hz',hc'⟩
  ·rw[hst,hY];dsimp only;rw[List.length_append];rfl
namespace Xo
def op (a b:List UInt8×Nat):List UInt8×Nat:=(List.zipWith (· ^^^ ·) a.1 b.1,a.2 ^^^ b.2)
def z:List UInt8×Nat:=(zeros16,0)
def Ok (a:List UInt8×Nat):Prop:=a.1.length=16
def all (l:List (List UInt8×Nat)):List UInt8×Nat:=l.foldl op z
theorem op_ok {a b} (ha:Ok a) (hb:Ok b):Ok (op a b):=by unfold Ok op at*;simp[ha,hb]
theorem z_ok:Ok z:=rfl
theorem op_comm (a b):op a b=op b a:=by
 unfold op;refine Prod.ext ?_ (Nat.xor_comm _ _);apply List.ext_getElem?;intro i;simp only[List.getElem?_zipWith];cases a.1[i]? <;>cases b.1[i]? <;>simp[UInt8.xor_comm]
theorem op_assoc (a b c):op (op a b) c=op a (op b c):=by
 unfold op;refine Prod.ext ?_ (Nat.xor_assoc _ _ _);apply List.ext_getElem?;intro i;simp only[List.getElem?_zipWith];cases a.1[i]? <;>cases b.1[i]? <;>cases c.1[i]? <;>simp[UInt8.xor_assoc]
theorem z_op {a} (ha:Ok a):op z a=a:=by
 obtain⟨d,n⟩:=a;unfold op z;refine Prod.ext ?_ (Nat.zero_xor n);apply List.ext_getElem?;intro i;have hd:d.length=16:=ha;simp only[List.getElem?_zipWith,zeros16,List.getElem?_replicate]
 by_cases hi:i<16
 ·rw[if_pos hi];cases d[i]? <;>simp
 ·rw[if_neg hi,List.getElem?_eq_none (by omega)]
theorem op_self {a} (ha:Ok a):op a a=z:=by
 obtain⟨d,n⟩:=a;unfold op z;refine Prod.ext ?_ (Nat.xor_self n);apply List.ext_getElem?;intro i;have hd:d.length=16:=ha;simp only[List.getElem?_zipWith,zeros16,List.getElem?_replicate]
 by_cases hi:i<16
 ·rw[if_pos hi,List.getElem?_eq_getElem (by omega)];simp
 ·rw[if_neg hi,List.getElem?_eq_none (by omega)]
theorem fold_ok:∀(l:List (List UInt8×Nat)),(∀x∈l,Ok x)->∀a,Ok a->Ok (l.foldl op a)
 | [],_,_,h=>h
 | x::l,hl,a,h=>fold_ok l (λy hy=>hl y (by simp[hy])) _ (op_ok h (hl x (by simp)))
theorem fold_from:∀(l:List (List UInt8×Nat)),(∀x∈l,Ok x)->∀a,Ok a->l.foldl op a=op a (all l)
 | [],_,a,h=>by unfold all;rw[List.foldl_nil,List.foldl_nil,op_comm,z_op h]
 | x::l,hl,a,h=>by
  have hx:=hl x (by simp);have hl':∀y∈l,Ok y:=λy hy=>hl y (by simp[hy]);unfold all;rw[List.foldl_cons,List.foldl_cons,fold_from l hl' _ (op_ok h hx),z_op hx,fold_from l hl' _ hx,op_assoc]
theorem all_erase:∀(l:List (List UInt8×Nat)) (k:Nat) (x:List UInt8×Nat),(∀x∈l,Ok x)->l[k]? =some x->op (all (l.eraseIdx k)) x=all l
 | [],_,_,_,h=>by simp at h
 | y::l,0,x,hl,h=>by
  simp at h;subst h;have hl':∀z∈l,Ok z:=λz hz=>hl z (by simp[hz]);have hy:=hl y (by simp);rw[List.eraseIdx_cons_zero];show _=(y::l).foldl op z;rw[List.foldl_cons,z_op hy,fold_from l hl' _ hy,op_comm]
 | y::l,k+1,x,hl,h=>by
  have hl':∀z∈l,Ok z:=λz hz=>hl z (by simp[hz]);have hy:=hl y (by simp);have he:∀z∈l.eraseIdx k,Ok z:=λz hz=>hl' z (List.mem_of_mem_eraseIdx hz);rw[List.eraseIdx_cons_succ];show op ((y::l.eraseIdx k).foldl op z) x=(y::l).foldl op z;rw[List.foldl_cons,List.foldl_cons,z_op hy,fold_from _ he _ hy,fold_from l hl' _ hy,op_assoc,all_erase l k x hl' (by simpa using h)]
theorem all_back (l:List (List UInt8×Nat)) (k:Nat) (x:List UInt8×Nat) (hl:∀x∈l,Ok x) (h:l[k]? =some x):all (l.eraseIdx k++[all l])=x:=by
 have he:∀z∈l.eraseIdx k,Ok z:=λz hz=>hl z (List.mem_of_mem_eraseIdx hz);have hx:=hl x (List.mem_of_getElem? h);have e:all (l.eraseIdx k++[all l])=op (all (l.eraseIdx k)) (all l):=by unfold all;rw[List.foldl_append];rfl
 have hok:Ok (all (l.eraseIdx k)):=fold_ok _ he _ z_ok;rw[e,<- all_erase l k x hl h,<- op_assoc,op_self hok,z_op hx]
theorem ovM_nat {a b:Nat} (ha:a<18446744073709551616) (hb:b<18446744073709551616):W.ovM a b=((a ^^^ b:Nat):Int):=by
 unfold W.ovM;have h1:(BitVec.ofInt 64 (a:Int) ^^^ BitVec.ofInt 64 (b:Int)).toNat=a ^^^ b:=by
  rw[BitVec.toNat_xor,BitVec.ofInt_natCast,BitVec.ofInt_natCast,BitVec.toNat_ofNat,BitVec.toNat_ofNat,Nat.mod_eq_of_lt ha,Nat.mod_eq_of_lt hb]
 rw[h1];have h2:a ^^^ b<18446744073709551616:=Nat.xor_lt_two_pow (n:=64) ha hb;simp[IntKind.wrap,IntKind.bits,IntKind.signed];omega
def toX (s:Sh):List UInt8×Nat:=(s.data,S.meta_ s.role s.lpn s.seq)
theorem mix_all {x s:List UInt8} (hx:x.length=16) (hs:s.length=16):W.mix x s 16=List.zipWith (· ^^^ ·) x s:=by
 unfold W.mix;rw[List.take_of_length_le (by simp[hx,hs]),List.drop_of_length_le (by omega),List.append_nil]
theorem over_all:∀(l:List Sh) (a:List UInt8×Nat),(∀s∈l,s.data.length=16)->Ok a->a.2<18446744073709551616->l.foldl W.over1 (a.1,(a.2:Int))=(((l.map toX).foldl op a).1,((((l.map toX).foldl op a).2:Nat):Int))/\((l.map toX).foldl op a).2<18446744073709551616
 | [],a,_,_,h=>⟨rfl,h⟩
 | s::l,a,hl,ha,h=>by
  have hs:=hl s (by simp);have hm:=S.meta_lt s.role s.lpn s.seq;have hlt:a.2 ^^^ S.meta_ s.role s.lpn s.seq<18446744073709551616:=Nat.xor_lt_two_pow (n:=64) h hm;have e:W.over1 (a.1,(a.2:Int)) s=((op a (toX s)).1,(((op a (toX s)).2:Nat):Int)):=by
   unfold W.over1;rw[ovM_nat h hm,mix_all ha hs];rfl
  rw[List.foldl_cons,List.map_cons,List.foldl_cons,e];exact over_all l (op a (toX s)) (λt ht=>hl t (by simp[ht])) (op_ok ha hs) hlt
end Xo
theorem b2i (l:List Sh) (hl:∀s∈l,s.data.length=16):W.over l=((Xo.all (l.map Xo.toX)).1,((Xo.all (l.map Xo.toX)).2:Int))/\(Xo.all (l.map Xo.toX)).2<18446744073709551616:=
 Xo.over_all l Xo.z hl Xo.z_ok (by decide)
theorem b1v {b r m:Int} {l:List En} (hd:∀s∈l,s.data.length=16):Xo.toX (W.parS b r m l)=Xo.all ((l.map (W.sh b r m)).map Xo.toX):=by
 obtain⟨h1,h2⟩:=b2i (l.map (W.sh b r m)) (λs hs=>by obtain⟨e,he,rfl⟩:=List.mem_map.1 hs;exact hd e he);have e2:(W.over (l.map (W.sh b r m))).2.toNat=(Xo.all ((l.map (W.sh b r m)).map Xo.toX)).2:=by rw[h1];rfl
 have e1:(W.over (l.map (W.sh b r m))).1=(Xo.all ((l.map (W.sh b r m)).map Xo.toX)).1:=by rw[h1]
 refine Prod.ext e1 ?_;show S.meta_ ((W.over (l.map (W.sh b r m))).2.toNat/72057594037927936:Nat) ((W.over (l.map (W.sh b r m))).2.toNat/1099511627776 % 65536:Nat) ((W.over (l.map (W.sh b r m))).2.toNat % 1099511627776:Nat)=_;rw[e2];generalize(Xo.all ((l.map (W.sh b r m)).map Xo.toX)).2=x at h2;unfold S.meta_;omega
theorem a4Q {α β:Type} (f:α->β):∀(l:List α) (k:Nat),(l.eraseIdx k).map f=(l.map f).eraseIdx k
 | [],_=>rfl
 | _::_,0=>rfl
 | x::l,k+1=>by simp only[List.eraseIdx_cons_succ,List.map_cons,a4Q f l k]
theorem b3G {b r m:Int} {l:List En} (hd:∀s∈l,s.data.length=16) (hB:W.parB b r m l=true) {k:Nat} {e:En} (hk:l[k]? =some e):W.backS (W.parS b r m l) ((l.map (W.sh b r m)).eraseIdx k)=e:=by
 have hdm:∀s∈l.map (W.sh b r m),s.data.length=16:=λs hs=>by obtain⟨e,he,rfl⟩:=List.mem_map.1 hs;exact hd e he
 have hde:∀s∈(l.map (W.sh b r m)).eraseIdx k++[W.parS b r m l],s.data.length=16:=λs hs=>by
  rw[List.mem_append,List.mem_singleton]at hs;rcases hs with hs | rfl
  ·exact hdm s (List.mem_of_mem_eraseIdx hs)
  ·exact a6V hd
 obtain⟨h1,h2⟩:=b2i _ hde;have hx:Xo.all (((l.map (W.sh b r m)).eraseIdx k++[W.parS b r m l]).map Xo.toX)=Xo.toX (W.sh b r m e):=by
  rw[List.map_append,List.map_cons,List.map_nil,b1v hd,a4Q];exact Xo.all_back _ k _ (λx hx=>by obtain⟨s,hs,rfl⟩:=List.mem_map.1 hx;exact hdm s hs) (by rw[List.getElem?_map,List.getElem?_map,hk];rfl)
 rw[hx]at h1;have hok:=(O6 hB).2.2.2 e (List.mem_of_getElem? hk);have hmay:S.may (W.sh b r m e)=true:=hok;have hb:=hmay;simp only[S.may,S.numbers,S.inB,Bool.and_eq_true,decide_eq_true_eq]at hb;obtain⟨m1,m2,m3⟩:=S.meta_back e.role e.lpn e.seq hb.1.2.2 hb.1.2.1.2 hb.1.2.1.1;unfold W.backS;simp only[h1];obtain⟨el,es,er,ed⟩:=e;exact(En.mk.injEq ..).mpr ⟨m2,m3,m1,rfl⟩
theorem Bt.numAt_congr {a b:List UInt8} {k:Nat}:∀w,(∀i,i<w->Bt.bitAt a (k+i)=Bt.bitAt b (k+i))->Bt.numAt a k w=Bt.numAt b k w
 | 0,_=>rfl
 | w+1,h=>by rw[Bt.numAt,Bt.numAt,Bt.numAt_congr w (λi hi=>h i (by omega)),h w (by omega)]
theorem a7w (K:Nat) (p:List UInt8) (hp:p.length=32) (hK:K<=32) (i:Nat):(Nand.fillP K p).getD i 0=if i<K then p.getD i 0 else if i<32 then 255 else 0:=by
 unfold Nand.fillP;simp only[List.getD_eq_getElem?_getD];rw[List.getElem?_append,List.length_take,hp]
 by_cases h:i<K
 ·rw[if_pos (by omega),if_pos h,List.getElem?_take,if_pos h]
 ·rw[if_neg (by omega),if_neg h]
  by_cases h2:i<32
  ·rw[if_pos h2,List.getElem?_replicate,if_pos (by omega)];rfl
  ·rw[if_neg h2,List.getElem?_replicate,if_neg (by omega)];rfl
theorem a1H (p:List UInt8) (k i:Nat):(p.drop k).getD i 0=p.getD (k+i) 0:=by
 simp[List.getD_eq_getElem?_getD]
theorem a9L (K:Nat) (p:List UInt8) (hp:p.length=32) (hK:K<28):(S.fields (Nand.fillP K p)).kind=255:=by
 show((Bt.numAt ((Nand.fillP K p).drop 16) 88 8:Nat):Int)=255;rw[Bt.numAt_eq _ 88 8 255 (λi hi=>?_) 8 (Nat.le_refl 8)]
 ·rfl
 ·unfold Bt.bitAt;rw[show(88+i)/8=11 from by omega,a1H,a7w K p hp (by omega),if_neg (by omega),if_pos (by omega),show 7-(88+i) % 8=8-1-i from by omega];rfl
theorem a6G (K:Nat) (p:List UInt8) (hp:p.length=32) (hK:28<=K) (hK2:K<=32):S.fields (Nand.fillP K p)=S.fields p:=by
 have hb:∀j,j<96->Bt.bitAt ((Nand.fillP K p).drop 16) j=Bt.bitAt (p.drop 16) j:=λj hj=>by
  unfold Bt.bitAt;rw[a1H,a1H,a7w K p hp hK2,if_pos (by omega)]
 have h16:(Nand.fillP K p).take 16=p.take 16:=by
  unfold Nand.fillP;rw[List.take_append_of_le_length (by rw[List.length_take,hp];omega),List.take_take,Nat.min_eq_left (by omega)]
 unfold S.fields;simp only[h16,Bt.numAt_congr (a:=(Nand.fillP K p).drop 16) (b:=p.drop 16) (k:=0) 64 (λi hi=>hb _ (by omega)),Bt.numAt_congr (a:=(Nand.fillP K p).drop 16) (b:=p.drop 16) (k:=88) 8 (λi hi=>hb _ (by omega)),
  Bt.numAt_congr (a:=(Nand.fillP K p).drop 16) (b:=p.drop 16) (k:=64) 8 (λi hi=>hb _ (by omega)),Bt.numAt_congr (a:=(Nand.fillP K p).drop 16) (b:=p.drop 16) (k:=72) 8 (λi hi=>hb _ (by omega)),Bt.numAt_congr (a:=(Nand.fillP K p).drop 16) (b:=p.drop 16) (k:=80) 8 (λi hi=>hb _ (by omega))]
theorem b0Y {b r m:Int} {l:List En} (hd:∀s∈l,s.data.length=16) (hB:W.parB b r m l=true) {k:Nat} {e:En} (hk:l[k]? =some e):W.backB (W.parS b r m l) ((l.map (W.sh b r m)).eraseIdx k)=true/\W.back (W.parS b r m l) ((l.map (W.sh b r m)).eraseIdx k)=e:=by
 obtain⟨p1,p2,p3,p4⟩:=O6 hB;have hb:=b3G hd hB hk;have hkl:k<l.length:=(List.getElem?_eq_some_iff.1 hk).1;have hany:((l.map (W.sh b r m)).eraseIdx k).any (W.alien (W.parS b r m l))=false:=by
  rw[List.any_eq_false];intro s hs;obtain⟨x,hx,rfl⟩:=List.mem_map.1 (List.mem_of_mem_eraseIdx hs);have hmay:S.may (W.sh b r m x)=true:=p4 x hx;unfold W.alien;rw[hmay];simp[W.sh,W.parS]
 have hlen:decide ((((l.map (W.sh b r m)).eraseIdx k).length:Int)=G.slots (W.parS b r m l).mask-1)=true:=by
  refine decide_eq_true ?_;rw[List.length_eraseIdx,if_pos (by rw[List.length_map];exact hkl),List.length_map];show((l.length-1:Nat):Int)=G.slots m-1;omega
 have h1:W.backB (W.parS b r m l) ((l.map (W.sh b r m)).eraseIdx k)=true:=by
  unfold W.backB;rw[a6U hB,hany,hlen,hb];show(((2:Int)==2&&true&& !false&&true)&&W.ok b r m e)=true;rw[p4 e (List.mem_of_getElem? hk)];rfl
 refine⟨h1,?_⟩;unfold W.back;rw[if_pos h1,hb]
end Go.Proofs.YtnffkcabeecopaaGreat
namespace Go.Proofs.YtnffkcabeecopaaGreat
open Go
def a4a (s:Sh) (c:NCell):Prop:=c.lost=true\/c.p=C8 s\/c.turned=true/\((∃n y,n<32/\y≠0/\c.p=Nand.xorAt (C8 s) n y)\/∃K,K<=32/\c.p=Nand.fillP K (C8 s))
structure ShAt (s:Sh) (d b r:Int):Prop where
 len:s.data.length=16
 may:S.may s=true
 blk:s.block=b
 row:s.row=r
 has:L.has s.mask d=true
 par:(G.parity s.mask b r==d)=(s.kind==2)
theorem b2z {N:Nand} {d b r:Int} (h:N.readE d b r≠0):(M.look N d b r).2≠1:=by
 unfold M.look;simp only;rw[if_neg h];split
 ·decide
 ·split<;>decide
theorem a4l {N:Nand} {d b r:Int} (h:N.refuses d b r≠0):(M.look N d b r).2≠1:=by
 refine b2z ?_;unfold Nand.readE;rw[if_pos h];exact h
theorem U8 {N:Nand} {d b r:Int} (h:N.pageAt d b r=none):(M.look N d b r).2≠1:=by
 refine b2z ?_;unfold Nand.readE;split
 ·assumption
 ·rw[h];decide
theorem a0S {N:Nand} {d b r:Int} {s:Sh} (hs:ShAt s d b r) {t:Bool} (hr:N.refuses d b r=0) (hc:N.pageAt d b r=some ⟨C8 s,false,t⟩):M.look N d b r=(s,1):=by
 have hput:C8 s=S.put s:=by unfold C8;rw[if_pos hs.may]
 obtain⟨g1,g2⟩:=S.getV_put s hs.len hs.may;have e1:N.readE d b r=0:=by unfold Nand.readE;rw[if_neg (by simp[hr]),hc];rfl
 have e2:N.readV d b r=S.put s:=by unfold Nand.readV;rw[if_neg (by simp[hr]),hc];simpa using hput
 unfold M.look;simp only;rw[if_pos e1,e2,g1,g2,if_neg];simp only[M.bad,hs.blk,hs.row,hs.has,hs.par];simp
theorem a0d {N:Nand} {d b r:Int} {s:Sh} (hs:ShAt s d b r) {c:NCell} (hc:N.pageAt d b r=some c) (hC:a4a s c) (h1:(M.look N d b r).2=1):M.look N d b r=(s,1):=by
 by_cases hr:N.refuses d b r=0
 ·have hput:C8 s=S.put s:=by unfold C8;rw[if_pos hs.may]
  by_cases hl:c.lost=true
  ·refine absurd h1 (b2z ?_);unfold Nand.readE;rw[if_neg (by simp[hr]),hc];simp[hl]
  ·have hl:c.lost=false:=by simpa using hl
   rcases hC with h | h | ⟨_,⟨n,y,hn,hy,h⟩ | ⟨K,hK,h⟩⟩
   ·rw[hl]at h;cases h
   ·refine a0S (t:=c.turned) hs hr ?_;rw[hc];cases c;simp only at h hl;rw[h,hl]
   ·refine absurd h1 ?_;have e1:N.readE d b r=0:=by unfold Nand.readE;rw[if_neg (by simp[hr]),hc];simp[hl]
    have e2:N.readV d b r=(S.put s).set n ((S.put s).getD n 0 ^^^ y):=by unfold Nand.readV;rw[if_neg (by simp[hr]),hc];simp[hl,h,hput,Nand.xorAt]
    have hg:=S.turned_none s hs.len n hn ((S.put s).getD n 0 ^^^ y) (λe=>hy (by
     have e2:=congrArg (λz=>(S.put s).getD n 0 ^^^ z) e;simp only[<- UInt8.xor_assoc,UInt8.xor_self,UInt8.zero_xor]at e2;exact e2))
    unfold M.look;simp only;rw[if_pos e1,e2,if_pos]
    ·decide
    ·refine .inl ?_;unfold S.getE;rw[hg];decide
   ·have hpl:(S.put s).length=32:=S.length_put s hs.len;have e1:N.readE d b r=0:=by unfold Nand.readE;rw[if_neg (by simp[hr]),hc];simp[hl]
    have e2:N.readV d b r=Nand.fillP K (S.put s):=by unfold Nand.readV;rw[if_neg (by simp[hr]),hc];simp[hl,h,hput]
    unfold M.look at h1 ⊢;simp only at h1 ⊢;rw[if_pos e1,e2]at h1 ⊢;split at h1
    ·cases h1
    ·rename_i hcond;rw[if_neg hcond];have hE:S.getE (Nand.fillP K (S.put s))=0:=by
      by_cases h:S.getE (Nand.fillP K (S.put s))=0
      ·exact h
      ·exact absurd (.inl h) hcond
     have hsome:(S.get (Nand.fillP K (S.put s))).isSome=true:=by
      unfold S.getE at hE;split at hE
      ·assumption
      ·cases hE
     unfold S.get at hsome;split at hsome
     ·rename_i hmay;have hk28:28<=K:=by
       by_cases h:28<=K
       ·exact h
       ·have h1:=a9L K (S.put s) hpl (by omega);have h2:=S.may_bounds _ hmay.1;omega
      have:S.getV (Nand.fillP K (S.put s))=s:=by
       unfold S.getV S.get;rw[if_pos hmay,a6G K _ hpl hk28 hK,S.fields_put s hs.len hs.may];rfl
      rw[this]
     ·cases hsome
 ·exact absurd h1 (a4l hr)
structure RowIs (N:Nand) (b r m:Int) (l:List En):Prop where
 six:N.dies<=6
 blk:0<=b/\b<N.blocks
 row:0<=r/\r<N.pages
 mask:0<=m/\m<2^N.dies
 data:∀s∈l,s.data.length=16
 par:W.parB b r m l=true
namespace RowIs
variable {N : Nand} {b r m : Int} {l : List En}
theorem like {N':Nand} (h:RowIs N b r m l) (k:N.Like N'):RowIs N' b r m l:=⟨by rw[k.dies];exact h.six,by rw[k.blocks];exact h.blk,by rw[k.pages];exact h.row,by rw[k.dies];exact h.mask,h.data,h.par⟩
theorem m64 (h:RowIs N b r m l):m<64:=by
 have:(2:Int)^N.dies<=2^6:=by exact_mod_cast Nat.pow_le_pow_right (n:=2) (by omega) h.six
 have:=h.mask;omega
theorem len (h:RowIs N b r m l):(l.length:Int)=G.slots m:=(O6 h.par).1
theorem count (h:RowIs N b r m l):2<=L.count m:=by
 have:=O6 h.par;unfold G.slots at this;split at this<;>omega
theorem facts (h:RowIs N b r m l):DieFacts m b r:=b3w m b r h.mask.1 h.m64 h.count h.blk.1 h.row.1
theorem nodup (h:RowIs N b r m l):((R.job b r m l).map (·.1)).Nodup:=b0w h.facts h.len
theorem inn (h:RowIs N b r m l):∀x∈R.job b r m l,0<=x.1/\x.1<(N.dies:Int)/\L.has m x.1=true:=by
 have hl:=h.len;intro x hx;rcases mem_job.1 hx with⟨k,hk,rfl⟩ | rfl
 ·have hf:=h.facts.die k (by omega);obtain⟨d,hd⟩:=Int.eq_ofNat_of_zero_le hf.2.2.1;dsimp only at hf ⊢;rw[hd]at hf ⊢;have:=a0r h.mask.2 hf.1;exact⟨by omega,by omega,hf.1⟩
 ·have hf:=h.facts.par;obtain⟨d,hd⟩:=Int.eq_ofNat_of_zero_le hf.2.1;dsimp only;rw[hd]at hf ⊢;have:=a0r h.mask.2 hf.1;exact⟨by omega,by omega,hf.1⟩
theorem sh (h:RowIs N b r m l):∀x∈R.job b r m l,ShAt x.2 x.1 b r/\x.2.mask=m:=by
 obtain⟨p1,p2,p3,p4⟩:=O6 h.par;intro x hx;rcases mem_job.1 hx with⟨k,hk,rfl⟩ | rfl
 ·have hmem:l.getD k En.zero∈l:=by rw[List.getD_eq_getElem?_getD,List.getElem?_eq_getElem hk];exact List.getElem_mem _
  have hf:=h.facts.die k (by omega);refine⟨⟨h.data _ hmem,p4 _ hmem,rfl,rfl,hf.1,?_⟩,rfl⟩;have:(G.parity m b r==G.die m b r (k:Nat))=false:=by rw[beq_eq_false_iff_ne];exactλe=>hf.2.1 e.symm
  show(G.parity m b r==G.die m b r (k:Nat))=_;rw[this];rfl
 ·refine⟨⟨a6V h.data,a6U h.par,rfl,rfl,h.facts.par.1,?_⟩,rfl⟩;show(G.parity m b r==G.parity m b r)=_;rw[beq_self_eq_true];rfl
theorem on (h:RowIs N b r m l) {d:Nat} (hd:L.has m (d:Nat)=true):∃x∈R.job b r m l,x.1=(d:Nat):=by
 have hlt:=a0r h.mask.2 hd;have:=h.six;rcases h.facts.all d (by omega) hd with e | ⟨k,hk,e⟩
 ·exact⟨_,mem_job.2 (.inr rfl),e.symm⟩
 ·have:=h.len;exact⟨_,mem_job.2 (.inl ⟨k,by omega,rfl⟩),e⟩
end RowIs
structure PartR (N:Nand) (b r m:Int) (l:List En) (g:Nat->Bool):Prop where
 good:∀k x,(R.job b r m l)[k]? =some x->g k=true->M.look N x.1 b r=(x.2,1)
 bad:∀k x,(R.job b r m l)[k]? =some x->g k=false->(M.look N x.1 b r).2≠1
def a5Q (g:Nat->Bool) (n k:Nat):Bool:=(List.range (n+1)).all λi=>i==k||g i
def okG (g:Nat->Bool) (n k:Nat):Bool:=g k||a5Q g n k
def b4r (b r m:Int) (l:List En) (g:Nat->Bool):List Fnd:=(List.range l.length).filterMap λk=>if okG g l.length k&&(l.getD k En.zero).role !=3 then some ⟨l.getD k En.zero,b,r,k,m,g l.length,!(g k)⟩else none
namespace PartR
variable {N : Nand} {b r m : Int} {l : List En} {g : Nat → Bool}
theorem one2 (h:PartR N b r m l g) (hm:∀x∈R.job b r m l,x.2.mask=m) {k:Nat} {x:Int×Sh} (hk:(R.job b r m l)[k]? =some x):(R.one N b r m x.1).2=g k/\(g k=true->(R.one N b r m x.1).1=x.2):=by
 unfold R.one;cases hg:g k with
 | true=>
  rw[h.good k x hk hg];refine⟨?_,λ_=>rfl⟩;show((1:Int)==1&&x.2.mask==m)=true;rw[hm x (List.mem_of_getElem? hk)];simp
 | false=>
  refine⟨?_,λh=>by cases h⟩;have:=h.bad k x hk hg;show((M.look N x.1 b r).2==1&&_)=false;rw[beq_eq_false_iff_ne.2 this];rfl
theorem fd (h:PartR N b r m l g) (hm:∀x∈R.job b r m l,x.2.mask=m) (hl:(l.length:Int)=G.slots m):
  (∀k,k<l.length->(R.look N b r m).good.getD k false=g k/\(g k=true->(R.look N b r m).slots.getD k Sh.zero=W.sh b r m (l.getD k En.zero)))/\
  (R.look N b r m).slots.length=l.length/\(R.look N b r m).whole=g l.length/\(g l.length=true->(R.look N b r m).parity=W.parS b r m l):=by
 have hs:(G.slots m).toNat=l.length:=by omega
 obtain⟨w1,w2⟩:=h.one2 hm (L5 b r m l);refine⟨λk hk=>?_,by rw[(D4 N b r m).1,hs],w1,w2⟩;obtain⟨o1,o2⟩:=h.one2 hm (a1y b r m l k hk);constructor
 ·unfold R.look R.ones;simp only[hs,List.getD_eq_getElem?_getD,List.getElem?_map,List.getElem?_range hk,Option.map_some,Option.getD_some];exact o1
 ·intro hg;have:=o2 hg;unfold R.look R.ones;simp only[hs,List.getD_eq_getElem?_getD,List.getElem?_map,List.getElem?_range hk,Option.map_some,Option.getD_some]at this ⊢;exact this
theorem mend (h:PartR N b r m l g) (hR:RowIs N b r m l) {j:Nat} (hj:j<l.length):
  R.mendB (R.look N b r m) j=a5Q g l.length j/\(a5Q g l.length j=true->R.mend (R.look N b r m) j=l.getD j En.zero):=by
 have hm:∀x∈R.job b r m l,x.2.mask=m:=λx hx=>(hR.sh x hx).2;obtain⟨f1,f2,f3,f4⟩:=h.fd hm hR.len;have hrest:R.rest (R.look N b r m) j=(List.range l.length).all λi=>i==j||g i:=by
  unfold R.rest;rw[f2];rw[Bool.eq_iff_iff,List.all_eq_true,List.all_eq_true];constructor
  ·intro hh i hi;have:=hh i hi
   rwa [(f1 i (List.mem_range.1 hi)).1]at this
  ·intro hh i hi;have:=hh i hi
   rwa [(f1 i (List.mem_range.1 hi)).1]
 have hoth:a5Q g l.length j=((List.range l.length).all (λi=>i==j||g i)&&g l.length):=by
  unfold a5Q;rw[List.range_succ,List.all_append];have:(l.length==j)=false:=by rw[beq_eq_false_iff_ne];omega
  simp[this]
 cases hO:a5Q g l.length j with
 | false=>
  refine⟨?_,λe=>by cases e⟩;unfold R.mendB;rw[hrest,f3,<- hoth,hO];rfl
 | true=>
  rw[hoth,Bool.and_eq_true]at hO;have hpar:=f4 hO.2;have hall:=List.all_eq_true.1 hO.1;have her:(R.look N b r m).slots.eraseIdx j=(l.map (W.sh b r m)).eraseIdx j:=by
   apply List.ext_getElem?;intro i;rw[List.getElem?_eraseIdx,List.getElem?_eraseIdx];have key:∀i,i≠j->(R.look N b r m).slots[i]? =(l.map (W.sh b r m))[i]?:=λi hij=>by
    rcases Nat.lt_or_ge i l.length with hi | hi
    ·have hgi:g i=true:=by have:=hall i (List.mem_range.2 hi);simpa[hij]using this
     have:=(f1 i hi).2 hgi;rw[List.getD_eq_getElem?_getD,List.getElem?_eq_getElem (by omega),Option.getD_some]at this;rw[List.getElem?_eq_getElem (by omega),this,List.getElem?_map,List.getD_eq_getElem?_getD,List.getElem?_eq_getElem hi];rfl
    ·rw[List.getElem?_eq_none (by omega),List.getElem?_eq_none (by rw[List.length_map];omega)]
   split
   ·exact key i (by omega)
   ·exact key (i+1) (by omega)
  have he:l[j]? =some (l.getD j En.zero):=by rw[List.getD_eq_getElem?_getD,List.getElem?_eq_getElem hj,Option.getD_some]
  obtain⟨b1,b2⟩:=b0Y hR.data hR.par he;unfold R.mendB R.mend;rw[hrest,hO.1,f3,hO.2,hpar,her,b1,b2];exact⟨rfl,λ_=>rfl⟩
theorem read (h:PartR N b r m l g) (hR:RowIs N b r m l) (hoff:N.off=false) {i:Nat} (hi:i<l.length):
  R.read N b r (i:Nat) m=if okG g l.length i then(l.getD i En.zero,0)else(En.zero,10):=by
 have hm:∀x∈R.job b r m l,x.2.mask=m:=λx hx=>(hR.sh x hx).2;have hl:=hR.len;obtain⟨f1,f2,f3,f4⟩:=h.fd hm hR.len;obtain⟨m1,m2⟩:=h.mend hR hi;have hf:=hR.facts.die i (by omega);have hg:y7 N.dies N.blocks N.pages 0 b r=true:=by
  have hd:=hR.inn _ (L5 b r m l |>List.mem_of_getElem?);exact Nand.geoIn_of ⟨by omega,by omega⟩ hR.blk hR.row
 unfold R.read;rw[if_neg (by rw[hg];simp;omega),hoff,if_neg (by decide),Int.toNat_natCast,(f1 i hi).1,m1];unfold okG;cases hgi:g i with
 | true=>
  rw[if_pos rfl,(f1 i hi).2 hgi];rfl
 | false=>
  rw[if_neg (by decide),Bool.false_or];cases ho:a5Q g l.length i with
  | true=>rw[if_pos rfl,if_pos rfl,m2 ho]
  | false=>rw[if_neg (by decide),if_neg (by decide)]
theorem fnd (h:PartR N b r m l g) (hR:RowIs N b r m l) {k:Nat} (hk:k<l.length):
  R.fnd (R.look N b r m) b r m k=if okG g l.length k&&(l.getD k En.zero).role !=3 then some ⟨l.getD k En.zero,b,r,k,m,g l.length,!(g k)⟩else none:=by
 have hm:∀x∈R.job b r m l,x.2.mask=m:=λx hx=>(hR.sh x hx).2;obtain⟨f1,f2,f3,f4⟩:=h.fd hm hR.len;obtain⟨m1,m2⟩:=h.mend hR hk;unfold R.fnd R.okAt R.enAt;rw[(f1 k hk).1,f3,m1];unfold okG;cases hgi:g k with
 | true=>
  rw[(f1 k hk).2 hgi];rfl
 | false=>
  simp only[Bool.false_or,Bool.false_eq_true,if_false];cases ho:a5Q g l.length k with
  | true=>rw[m2 ho]
  | false=>rfl
theorem allM (h:PartR N b r m l g) (hR:RowIs N b r m l):R.allM N b r m=b4r b r m l g:=by
 have hl:=hR.len;unfold R.allM b4r;rw[(D4 N b r m).1,show(G.slots m).toNat=l.length from by omega];exact Y8 λk hk=>h.fnd hR (List.mem_range.1 hk)
end PartR
def gOf (N:Nand) (b r m:Int) (l:List En) (k:Nat):Bool:=match(R.job b r m l)[k]? with
 | some x=>(M.look N x.1 b r).2==1
 | none=>false
def RowIn (N:Nand) (b r m:Int) (l:List En):Prop:=∀x∈R.job b r m l,∀c,N.pageAt x.1 b r=some c->a4a x.2 c
theorem RowIn.part {N:Nand} {b r m:Int} {l:List En} (h:RowIn N b r m l) (hR:RowIs N b r m l):PartR N b r m l (gOf N b r m l):=by
 refine⟨λk x hk hg=>?_,λk x hk hg=>?_⟩
 ·unfold gOf at hg;rw[hk]at hg;have hx:=List.mem_of_getElem? hk;have h1:(M.look N x.1 b r).2=1:=by simpa using hg
  cases hp:N.pageAt x.1 b r with
  | none=>exact absurd h1 (U8 hp)
  | some c=>exact a0d (hR.sh x hx).1 hp (h x hx c hp) h1
 ·unfold gOf at hg;rw[hk]at hg;simpa using hg
namespace Nand
def failB (N:Nand) (b r d:Int):Bool:=N.dead.getD d.toNat false||N.fails d b r
variable {N : Nand}
theorem Lit.refuses (h:N.Lit) {x y z:Int} (hx:0<=x/\x<N.dies) (hy:0<=y/\y<N.blocks) (hz:0<=z/\z<N.pages):N.refuses x y z=if N.dead.getD x.toNat false then 8 else 0:=by
 unfold Nand.refuses;rw[h.off,if_neg (by decide),geoIn_of hx hy hz,if_neg (by decide)]
end Nand
structure RdyR (N:Nand) (b r:Int) (q:List (Int×Sh)):Prop where
 lit:N.Lit
 nodup:(q.map (·.1)).Nodup
 inn:∀x∈q,0<=x.1/\x.1<N.dies
 blk:0<=b/\b<N.blocks
 row:0<=r/\r<N.pages
 cells:∀x∈q,N.dead.getD x.1.toNat false=false->((N.blk x.1.toNat b.toNat).cells.length:Int)=r
structure WroteR (N N':Nand) (b r:Int) (q:List (Int×Sh)):Prop where
 lit:N'.Lit
 like:N.Like N'
 dead:N'.dead=N.dead
 broken:N'.broken=N.broken
 cells:∀x∈q,(N'.blk x.1.toNat b.toNat).cells=if N.dead.getD x.1.toNat false then(N.blk x.1.toNat b.toNat).cells else(N.blk x.1.toNat b.toNat).cells++[⟨C8 x.2,N.fails x.1 b r,false⟩]
 rest:∀i j,(j≠b.toNat\/∀x∈q,x.1.toNat≠i)->N'.blk i j=N.blk i j
 flags:∀i j,(N'.blk i j).met=(N.blk i j).met/\(N'.blk i j).fails=(N.blk i j).fails/\(N'.blk i j).worn=(N.blk i j).worn
 plan:∀a∈N'.plan,a∈N.plan
 ops:N'.ops=N.ops+((q.filter λx=>!N.dead.getD x.1.toNat false).length:Int)
def H2 (N:Nand) (b r:Int):List (Int×Sh)->Int->Int
 | [],f=>f
 | x::q,f=>H2 N b r q (if N.failB b r x.1 then L.with_ f x.1 else f)
theorem a3H {N N':Nand} {b r:Int}:∀(q:List (Int×Sh)) (f:Int),(∀x∈q,N'.failB b r x.1=N.failB b r x.1)->H2 N' b r q f=H2 N b r q f
 | [],f,_=>rfl
 | x::q,f,h=>by rw[H2,H2,h x (by simp),a3H q _ λy hy=>h y (by simp[hy])]
theorem b5h (b r:Int):∀(q:List (Int×Sh)) (N:Nand) (f:Int),RdyR N b r q->(R.go b r q N f).2.1=H2 N b r q f/\(R.go b r q N f).2.2=(if H2 N b r q f=0 then 0 else 7)/\WroteR N (R.go b r q N f).1 b r q
 | [],N,f,h=>⟨rfl,rfl,h.lit,Nand.Like.refl N,rfl,rfl,by simp,λ_ _ _=>rfl,λ_ _=>⟨rfl,rfl,rfl⟩,λ_ h=>h,by simp[R.go]⟩
 | (d,s)::q,N,f,h=>by
  have hx:=h.inn (d,s) (by simp);have hc:=h.cells (d,s) (by simp);dsimp only at hx hc;have hr:=h.lit.refuses hx h.blk h.row;have hnd:=List.nodup_cons.1 h.nodup;have hne:∀x∈q,x.1≠d:=λx hxq e=>hnd.1 (List.mem_map.2 ⟨x,hxq,e⟩);have hne2:∀x∈q,x.1.toNat≠d.toNat:=λx hxq e=>by
   have:=h.inn x (by simp[hxq]);exact hne x hxq (by omega)
  by_cases hdd:N.dead.getD d.toNat false=true
  ·rw[hdd,if_pos rfl]at hr;have e1:N.progE d b r=8:=by unfold Nand.progE;rw[if_pos (by rw[hr];decide),hr]
   have e2:N.progN d b r (C8 s)=N:=by unfold Nand.progN;rw[if_pos (by rw[hr];decide)]
   have ef:N.failB b r d=true:=by unfold Nand.failB;rw[hdd];rfl
   have eg:R.go b r ((d,s)::q) N f=R.go b r q N (L.with_ f d):=by rw[R.go,if_neg (by rw[e1];decide),if_neg (by rw[e1];decide),e2]
   obtain⟨g1,g2,g3⟩:=b5h b r q N (L.with_ f d) ⟨h.lit,hnd.2,λx hxq=>h.inn x (by simp[hxq]),h.blk,h.row,λx hxq=>h.cells x (by simp[hxq])⟩;have em:H2 N b r ((d,s)::q) f=H2 N b r q (L.with_ f d):=by rw[H2];dsimp only;rw[ef,if_pos rfl]
   rw[eg,em];refine⟨g1,g2,g3.lit,g3.like,g3.dead,g3.broken,λx hxq=>?_,λi j hij=>g3.rest i j (hij.imp id λh' x hxq=>h' x (by simp[hxq])),g3.flags,g3.plan,?_⟩
   ·rcases List.mem_cons.1 hxq with rfl | hxq
    ·dsimp only;rw[g3.rest _ _ (.inr λy hy=>hne2 y hy),hdd,if_pos rfl]
    ·exact g3.cells x hxq
   ·rw[g3.ops,List.filter_cons,if_neg (by dsimp only;rw[hdd];decide)]
  ·have hdd:N.dead.getD d.toNat false=false:=by simpa using hdd
   have hc:=hc hdd;rw[hdd,if_neg (by decide)]at hr;have e1:=a0J hr hc.symm h.lit.cutB;have e2:=a0I (pg:=C8 s) hr hc.symm h.lit.cutB;have ef:N.failB b r d=N.fails d b r:=by unfold Nand.failB;rw[hdd];rfl
   obtain⟨N1,hN1⟩:∃N1,N.progN d b r (C8 s)=N1:=⟨_,rfl⟩;rw[hN1]at e2;have hb:∀i j,N1.blk i j=if i=d.toNat/\j=b.toNat then {N.blk d.toNat b.toNat with cells:=(N.blk d.toNat b.toNat).cells++[⟨C8 s,N.fails d b r,false⟩]}else N.blk i j:=λi j=>by rw[e2];rfl
   have hlike:N.Like N1:=by rw[e2];exact⟨rfl,rfl,rfl⟩
   have hlit:N1.Lit:=by rw[<- hN1];exact h.lit.prog _ _ _ _
   have hbr:N1.broken=N.broken:=by rw[e2];rfl
   have hdead:N1.dead=N.dead:=by rw[e2];rfl
   have hops:N1.ops=N.ops+1:=by rw[e2];rfl
   have hplan:N1.plan=N.plan.erase (d,b,r):=by rw[e2];rfl
   have hq:∀x∈q,N1.blk x.1.toNat b.toNat=N.blk x.1.toNat b.toNat:=λx hxq=>by rw[hb,if_neg (by have:=hne2 x hxq;omega)]
   have hfl:∀x∈q,N1.fails x.1 b r=N.fails x.1 b r:=λx hxq=>by
    unfold Nand.fails;rw[hq x hxq,hplan];congr 1;rw[decide_eq_decide];exact List.mem_erase_of_ne (λe=>hne x hxq (by injection e))
   have hfb:∀x∈q,N1.failB b r x.1=N.failB b r x.1:=λx hxq=>by unfold Nand.failB;rw[hdead,hfl x hxq]
   obtain⟨f1,hf1⟩:∃f1,(if N.fails d b r then L.with_ f d else f)=f1:=⟨_,rfl⟩;have eg:R.go b r ((d,s)::q) N f=R.go b r q N1 f1:=by
    rw[R.go,e1,hN1,<- hf1];cases N.fails d b r with
    | true=>rw[if_pos rfl,if_neg (by decide),if_neg (by decide),if_pos rfl]
    | false=>rw[if_neg Bool.false_ne_true,if_pos rfl,if_neg Bool.false_ne_true]
   have em:H2 N b r ((d,s)::q) f=H2 N b r q f1:=by rw[H2];dsimp only;rw[ef,hf1]
   obtain⟨g1,g2,g3⟩:=b5h b r q N1 f1 ⟨hlit,hnd.2,λx hxq=>by rw[hlike.dies];exact h.inn x (by simp[hxq]),by rw[hlike.blocks];exact h.blk,by rw[hlike.pages];exact h.row,λx hxq hd=>by rw[hq x hxq];exact h.cells x (by simp[hxq]) (by rw[<- hdead];exact hd)⟩;rw[a3H q f1 hfb]at g1 g2;rw[eg,em];refine⟨g1,g2,g3.lit,hlike.trans g3.like,g3.dead.trans hdead,g3.broken.trans hbr,λx hxq=>?_,λi j hij=>?_,λi j=>?_,λa ha=>?_,?_⟩
   ·rcases List.mem_cons.1 hxq with rfl | hxq
    ·dsimp only;rw[g3.rest _ _ (.inr λy hy=>hne2 y hy),hb,if_pos ⟨rfl,rfl⟩,hdd,if_neg (by decide)]
    ·rw[g3.cells x hxq,hdead,hq x hxq,hfl x hxq]
   ·rw[g3.rest i j (hij.imp id λh' x hxq=>h' x (by simp[hxq])),hb,if_neg];rintro⟨rfl,rfl⟩;rcases hij with h' | h'
    ·exact h' rfl
    ·exact h' (d,s) (by simp) rfl
   ·have:=g3.flags i j;rw[this.1,this.2.1,this.2.2,hb];split
    ·rename_i h';rw[h'.1,h'.2];exact⟨rfl,rfl,rfl⟩
    ·exact⟨rfl,rfl,rfl⟩
   ·have:=g3.plan a ha;rw[hplan]at this;exact List.mem_of_mem_erase this
   ·rw[g3.ops,hops,hdead,List.filter_cons,if_pos (by dsimp only;rw[hdd];decide),List.length_cons];omega
structure RdyW (N:Nand) (b r m:Int):Prop where
 lit:N.Lit
 cells:∀d:Nat,L.has m (d:Nat)=true->N.dead.getD d false=false->((N.blk d b.toNat).cells.length:Int)=r
theorem RdyW.rdy {N:Nand} {b r m:Int} {l:List En} (h:RdyW N b r m) (hR:RowIs N b r m l):RdyR N b r (R.job b r m l):=by
 refine⟨h.lit,hR.nodup,λx hx=>⟨(hR.inn x hx).1,(hR.inn x hx).2.1⟩,hR.blk,hR.row,λx hx hd=>?_⟩;obtain⟨h1,h2,h3⟩:=hR.inn x hx;refine h.cells x.1.toNat ?_ hd
 rwa [show((x.1.toNat:Nat):Int)=x.1 from by omega]
theorem a5v {N:Nand} {b r m:Int} {l:List En} (h:RdyW N b r m) (hR:RowIs N b r m l):(R.write N b r m l).2.1=H2 N b r (R.job b r m l) 0/\(R.write N b r m l).2.2=(if H2 N b r (R.job b r m l) 0=0 then 0 else 7)/\WroteR N (R.write N b r m l).1 b r (R.job b r m l):=by
 unfold R.write;rw[if_pos hR.par];exact b5h b r _ N 0 (h.rdy hR)
end Go.Proofs.YtnffkcabeecopaaGreat
namespace Go.Proofs.YtnffkcabeecopaaGreat
namespace L
theorem with_dec:∀f,f<256->∀d,d<8->set (with_ (f:Nat) (d:Nat))=true/\∀e,e<8->has (with_ (f:Nat) (d:Nat)) (e:Nat)=(has (f:Nat) (e:Nat)||decide (e=d)):=by decide+kernel
theorem without_dec:∀f,f<256->∀d,d<8->set (without (f:Nat) (d:Nat))=true/\∀e,e<8->has (without (f:Nat) (d:Nat)) (e:Nat)=(has (f:Nat) (e:Nat)&& !decide (e=d)):=by decide+kernel
theorem all_dec:∀n,n<=8->set (all (n:Nat))=true/\∀e,e<8->has (all (n:Nat)) (e:Nat)=decide (e<n):=by decide+kernel
theorem set_has {m:Int} (h:set m=true):∃k:Nat,m=k/\k<256:=by
 rw[set_iff]at h;exact⟨m.toNat,by omega,by omega⟩
theorem has_rng {m d:Int} (h:has m d=true):∃k:Nat,d=k/\k<8:=by
 have:=has_lt m d h;exact⟨d.toNat,by omega,by omega⟩
theorem has_out {m d:Int} (h:¬(0<=d/\d<8)):has m d=false:=by
 cases hh:has m d with
 | false=>rfl
 | true=>have:=has_lt m d hh;omega
theorem set_with {f d:Int} (hf:set f=true) (hd:0<=d/\d<8):set (with_ f d)=true:=by
 obtain⟨F,rfl,hF⟩:=set_has hf;obtain⟨D,rfl⟩:=Int.eq_ofNat_of_zero_le hd.1;exact(with_dec F hF D (by omega)).1
theorem with_has {f d:Int} (hf:set f=true) (hd:0<=d/\d<8) (e:Int):has (with_ f d) e=(has f e||decide (e=d)):=by
 obtain⟨F,rfl,hF⟩:=set_has hf;obtain⟨D,rfl⟩:=Int.eq_ofNat_of_zero_le hd.1
 by_cases he:0<=e/\e<8
 ·obtain⟨E,rfl⟩:=Int.eq_ofNat_of_zero_le he.1;rw[(with_dec F hF D (by omega)).2 E (by omega)];have e2:decide (E=D)=decide ((E:Int)=(D:Int)):=by rw[decide_eq_decide];omega
  rw[e2]
 ·rw[has_out he,has_out he,decide_eq_false (by omega)];rfl
theorem set_without {f d:Int} (hf:set f=true) (hd:0<=d/\d<8):set (without f d)=true:=by
 obtain⟨F,rfl,hF⟩:=set_has hf;obtain⟨D,rfl⟩:=Int.eq_ofNat_of_zero_le hd.1;exact(without_dec F hF D (by omega)).1
theorem without_has {f d:Int} (hf:set f=true) (hd:0<=d/\d<8) (e:Int):has (without f d) e=(has f e&& !decide (e=d)):=by
 obtain⟨F,rfl,hF⟩:=set_has hf;obtain⟨D,rfl⟩:=Int.eq_ofNat_of_zero_le hd.1
 by_cases he:0<=e/\e<8
 ·obtain⟨E,rfl⟩:=Int.eq_ofNat_of_zero_le he.1;rw[(without_dec F hF D (by omega)).2 E (by omega)];have e2:decide (E=D)=decide ((E:Int)=(D:Int)):=by rw[decide_eq_decide];omega
  rw[e2]
 ·rw[has_out he,has_out he];rfl
theorem set_all (n:Nat) (h:n<=8):set (all n)=true:=(all_dec n h).1
theorem all_has (n:Nat) (h:n<=8) (e:Int):has (all n) e=(decide (0<=e)&&decide (e<n)):=by
 by_cases he:0<=e/\e<8
 ·obtain⟨E,rfl⟩:=Int.eq_ofNat_of_zero_le he.1;rw[(all_dec n h).2 E (by omega),decide_eq_true he.1,Bool.true_and,decide_eq_decide];omega
 ·rw[has_out he]
  by_cases h0:0<=e
  ·rw[decide_eq_false (p:=e<n) (by omega)];simp
  ·rw[decide_eq_false h0];rfl
theorem ext {m k:Int} (hm:set m=true) (hk:set k=true) (h:∀d:Nat,d<8->has m (d:Nat)=has k (d:Nat)):m=k:=by
 obtain⟨M,rfl,hM⟩:=set_has hm;obtain⟨K,rfl,hK⟩:=set_has hk;refine congrArg (Nat.cast:Nat->Int) (Nat.eq_of_testBit_eq λi=>?_)
 by_cases hi:i<8
 ·have:=h i hi;simp only[has,hm,hk,Bool.true_and,Int.toNat_natCast]at this;have e1:decide ((0:Int)<=(i:Int))=true:=decide_eq_true (by omega);have e2:decide ((i:Int)<8)=true:=decide_eq_true (by omega)
  rwa [e1,e2,Bool.true_and,Bool.true_and,Bool.true_and]at this
 ·have h8:∀M,M<256->M.testBit i=false:=λM hM=>Nat.testBit_lt_two_pow (Nat.lt_of_lt_of_le hM (by
   have:(2:Nat)^8<=2^i:=Nat.pow_le_pow_right (by omega) (by omega);omega))
  rw[h8 M hM,h8 K hK]
theorem has_zero (d:Int):has 0 d=false:=by
 unfold has;simp
end L
theorem a7S (x:Nat) (h:x<1000000):Go.IntKind.i64.wrap (x:Int)=x:=by
 show(if((true&&decide ((x:Int) % 18446744073709551616>=9223372036854775808))=true)then(x:Int) % 18446744073709551616-18446744073709551616 else(x:Int) % 18446744073709551616)=x;rw[if_neg (by rw[Bool.true_and,decide_eq_true_eq];omega)];omega
theorem a7M {a b:Int} (ha:L.set a=true) (hb:L.set b=true):L.set (Tl.andN a b)=true/\∀e:Int,L.has (Tl.andN a b) e=(L.has a e&& !L.has b e):=by
 obtain⟨A,rfl,hA⟩:=L.set_has ha;obtain⟨B,rfl,hB⟩:=L.set_has hb;have e1:((BitVec.ofInt 64 (A:Int)&&& ~~~BitVec.ofInt 64 (B:Int)).toNat)<256:=by
  rw[BitVec.toNat_and];refine Nat.lt_of_le_of_lt Nat.and_le_left ?_;rw[BitVec.toNat_ofInt];simp;omega
 have e2:∀i,i<8->(BitVec.ofInt 64 (A:Int)&&& ~~~BitVec.ofInt 64 (B:Int)).toNat.testBit i=(A.testBit i&& !B.testBit i):=λi hi=>by
  rw[BitVec.testBit_toNat,BitVec.getLsbD_and,BitVec.getLsbD_not];have h1:∀C:Nat,C<256->(BitVec.ofInt 64 (C:Int)).getLsbD i=C.testBit i:=λC hC=>by
   rw[<- BitVec.testBit_toNat,BitVec.toNat_ofInt];have:((C:Int) % (((2^64:Nat)):Int)).toNat=C:=by omega
   rw[this]
  rw[h1 A hA,h1 B hB,decide_eq_true (by omega),Bool.true_and]
 have e3:Tl.andN (A:Int) (B:Int)=((BitVec.ofInt 64 (A:Int)&&& ~~~BitVec.ofInt 64 (B:Int)).toNat:Int):=by
  unfold Tl.andN;show IntKind.i64.wrap (((BitVec.ofInt 64 (A:Int)&&& ~~~BitVec.ofInt 64 (B:Int)).toNat:Nat):Int)=_;generalize(BitVec.ofInt 64 (A:Int)&&& ~~~BitVec.ofInt 64 (B:Int)).toNat=x at e1;exact a7S x (by omega)
 generalize hx:(BitVec.ofInt 64 (A:Int)&&& ~~~BitVec.ofInt 64 (B:Int)).toNat=x at e1 e2 e3;rw[e3];have hs:L.set (x:Int)=true:=by rw[L.set_iff];omega
 refine⟨hs,λe=>?_⟩
 by_cases he:0<=e/\e<8
 ·obtain⟨E,rfl⟩:=Int.eq_ofNat_of_zero_le he.1;simp only[L.has,hs,ha,hb,Bool.true_and,Int.toNat_natCast];rw[decide_eq_true (p:=(0:Int)<=(E:Int)) (by omega),decide_eq_true (p:=(E:Int)<8) (by omega),e2 E (by omega)];rfl
 ·rw[L.has_out he,L.has_out he];rfl
theorem a1F {N:Nand} {b r:Int}:∀(q:List (Int×Sh)) (f:Int),L.set f=true->(∀x∈q,0<=x.1/\x.1<8)->L.set (H2 N b r q f)=true/\∀d:Int,L.has (H2 N b r q f) d=(L.has f d||q.any λx=>decide (x.1=d)&&N.failB b r x.1)
 | [],f,hf,_=>⟨hf,λd=>by simp[H2]⟩
 | x::q,f,hf,hq=>by
  have hx:=hq x (by simp);rw[H2];cases hb:N.failB b r x.1 with
  | false=>
   rw[if_neg Bool.false_ne_true];have ih:=a1F (N:=N) (b:=b) (r:=r) q f hf λy hy=>hq y (by simp[hy]);refine⟨ih.1,λd=>?_⟩;rw[ih.2,List.any_cons,hb,Bool.and_false,Bool.false_or]
  | true=>
   rw[if_pos rfl];have ih:=a1F (N:=N) (b:=b) (r:=r) q (L.with_ f x.1) (L.set_with hf hx) λy hy=>hq y (by simp[hy]);refine⟨ih.1,λd=>?_⟩;rw[ih.2,L.with_has hf hx,List.any_cons,hb,Bool.and_true,Bool.or_assoc];congr 2;rw[decide_eq_decide];omega
namespace Tl
theorem at_set {t:Tl} (hl:t.l.length=t.b) {k j:Int} (s:Sb) (hk:t.has k=true) (hj:t.has j=true):(t.set k s).at_ j=if j=k then s else t.at_ j:=by
 unfold set;rw[if_pos hk];simp only[has,Bool.and_eq_true,decide_eq_true_eq]at hk hj;unfold at_;dsimp only
 by_cases e:j=k
 ·subst e;rw[if_pos rfl,List.getD_eq_getElem?_getD,List.getElem?_set_self (by omega)];rfl
 ·rw[if_neg e,List.getD_eq_getElem?_getD,List.getElem?_set_ne (by omega),<- List.getD_eq_getElem?_getD]
theorem has_set (t:Tl) (k j:Int) (s:Sb):(t.set k s).has j=t.has j:=by unfold has;rw[set_b]
theorem has_iff {t:Tl} {k:Int}:t.has k=true↔0<=k/\k<t.b:=by simp[has]
theorem set_no {t:Tl} {k:Int} (s:Sb) (h:t.has k=false):t.set k s=t:=by unfold set;rw[h];rfl
end Tl
end Go.Proofs.YtnffkcabeecopaaGreat
namespace Go.Proofs.YtnffkcabeecopaaGreat
open Go
structure FitR (e:En):Prop where
 lpn:0<=e.lpn/\e.lpn<=65535
 role:e.role=1\/((e.role=2\/e.role=4)/\e.data=zeros16)
 len:e.data.length=16
theorem b5I {b r m:Int} {e:En} (hb:0<=b/\b<=15) (hr:0<=r/\r<=7) (hm:2<=L.count m) (hs:0<=e.seq/\e.seq<=1099511627775) (h:FitR e\/e=En.pad):W.ok b r m e=true:=by
 have h5:S.entry (W.sh b r m e)=true:=by
  rcases h with h | h
  ·unfold S.entry;have e1:(W.sh b r m e).role=e.role:=rfl;have e2:(W.sh b r m e).data=e.data:=rfl;rw[e1,e2];rcases h.role with h3 | ⟨h3 | h3,h4⟩
   ·rw[if_pos h3]
   ·rw[if_neg (by omega),if_pos (.inl h3),decide_eq_true h4]
   ·rw[if_neg (by omega),if_pos (.inr h3),decide_eq_true h4]
  ·rw[h];rfl
 have h6:(0<=e.role/\e.role<=255)/\(0<=e.lpn/\e.lpn<=65535):=by
  rcases h with h | h
  ·have:=h.lpn;rcases h.role with h3 | ⟨h3 | h3,h4⟩<;>omega
  ·rw[h];decide
 have h7:S.place (W.sh b r m e)=true:=by
  unfold S.place S.inB;rw[decide_eq_true (show 2<=L.count (W.sh b r m e).mask from hm),decide_eq_true (show 0<=(W.sh b r m e).block from hb.1),decide_eq_true (show(W.sh b r m e).block<=15 from hb.2),decide_eq_true (show 0<=(W.sh b r m e).row from hr.1),decide_eq_true (show(W.sh b r m e).row<=7 from hr.2)];rfl
 have h8:S.numbers (W.sh b r m e)=true:=by
  unfold S.numbers S.inB;rw[decide_eq_true (show 0<=(W.sh b r m e).seq from hs.1),decide_eq_true (show(W.sh b r m e).seq<=1099511627775 from hs.2),decide_eq_true (show 0<=(W.sh b r m e).lpn from h6.2.1),decide_eq_true (show(W.sh b r m e).lpn<=65535 from h6.2.2),decide_eq_true (show 0<=(W.sh b r m e).role from h6.1.1),decide_eq_true (show(W.sh b r m e).role<=255 from h6.1.2)];rfl
 unfold W.ok S.may;rw[h5,h7,h8];rfl
structure Msk (D:Nat) (fd m:Int):Prop where
 set:L.set m=true
 lt:∀d:Int,L.has m d=true->d<D
 all:∀d:Nat,d<D->(d:Int)≠fd->L.has m (d:Nat)=true
theorem a1o:∀D,D<7->3<=D->G.slots (L.all (D:Nat))=(D:Int)-1/\L.count (L.all (D:Nat))=D/\L.all (D:Nat)<2^D:=by decide+kernel
theorem b1J:∀D,D<7->3<=D->∀d,d<D->G.slots (L.without (L.all (D:Nat)) (d:Nat))=(D:Int)-2/\L.count (L.without (L.all (D:Nat)) (d:Nat))=D-1/\L.without (L.all (D:Nat)) (d:Nat)<2^D:=by decide+kernel
namespace Msk
variable {D : Nat} {fd m : Int}
theorem eq (h:Msk D fd m) (hD:3<=D/\D<=6):(m=L.all (D:Nat)/\(0<=fd/\fd<D->L.has m fd=true))\/(0<=fd/\fd<D/\L.has m fd=false/\m=L.without (L.all (D:Nat)) fd):=by
 have hs:=L.set_all D (by omega)
 by_cases hf:(0<=fd/\fd<D)/\L.has m fd=false
 ·right;refine⟨hf.1.1,hf.1.2,hf.2,L.ext h.set (L.set_without hs (by omega)) λd hd=>?_⟩;rw[L.without_has hs (by omega),L.all_has D (by omega),decide_eq_true (p:=(0:Int)<=(d:Int)) (by omega),Bool.true_and]
  by_cases hlt:d<D
  ·rw[decide_eq_true (p:=(d:Int)<D) (by omega),Bool.true_and]
   by_cases e:(d:Int)=fd
   ·rw[e,hf.2];simp
   ·rw[h.all d hlt e,decide_eq_false e];rfl
  ·rw[decide_eq_false (p:=(d:Int)<D) (by omega),Bool.false_and];cases hh:L.has m (d:Nat)with
   | false=>rfl
   | true=>have:=h.lt _ hh;omega
 ·left;have hff:0<=fd/\fd<D->L.has m fd=true:=λhr=>by
   cases hh:L.has m fd with
   | true=>rfl
   | false=>exact absurd ⟨hr,hh⟩ hf
  refine⟨L.ext h.set hs λd hd=>?_,hff⟩;rw[L.all_has D (by omega),decide_eq_true (p:=(0:Int)<=(d:Int)) (by omega),Bool.true_and]
  by_cases hlt:d<D
  ·rw[decide_eq_true (p:=(d:Int)<D) (by omega)]
   by_cases e:(d:Int)=fd
   ·rw[e];exact hff (by omega)
   ·exact h.all d hlt e
  ·rw[decide_eq_false (p:=(d:Int)<D) (by omega)];cases hh:L.has m (d:Nat)with
   | false=>rfl
   | true=>have:=h.lt _ hh;omega
def full (D:Nat) (fd m:Int):Bool:=!(decide (0<=fd)&&decide (fd<D))||L.has m fd
theorem slots (h:Msk D fd m) (hD:3<=D/\D<=6):G.slots m=(if full D fd m then(D:Int)-1 else(D:Int)-2)/\2<=L.count m/\0<=m/\m<2^D:=by
 have hm0:0<=m:=by have:=(L.set_iff m).1 h.set;omega
 rcases h.eq hD with⟨e,hf⟩ | ⟨h1,h2,h3,e⟩
 ·have hfull:full D fd m=true:=by
   unfold full
   by_cases hr:0<=fd/\fd<D
   ·rw[hf hr];simp
   ·by_cases h0:0<=fd
    ·rw[decide_eq_false (p:=fd<D) (by omega)];simp
    ·rw[decide_eq_false h0];simp
  obtain⟨a1,a2,a3⟩:=a1o D (by omega) hD.1;rw[hfull,if_pos rfl];rw[e]at hm0 ⊢;exact⟨a1,by omega,hm0,a3⟩
 ·have hfull:full D fd m=false:=by
   unfold full;rw[decide_eq_true h1,decide_eq_true h2,h3];rfl
  obtain⟨d,hd⟩:=Int.eq_ofNat_of_zero_le h1;obtain⟨a1,a2,a3⟩:=b1J D (by omega) hD.1 d (by omega);rw[hfull,if_neg Bool.false_ne_true];rw[e,hd]at hm0 ⊢;exact⟨a1,by omega,hm0,a3⟩
theorem pos (h:Msk D fd m) (hD:3<=D/\D<=6):1<=G.slots m/\(D:Int)-2<=G.slots m/\G.slots m<=(D:Int)-1:=by
 have:=(h.slots hD).1;split at this<;>omega
end Msk
structure Full (fd:Int) (N:Nand) (b r m:Int) (l:List En):Prop where
 is:RowIs N b r m l
 good:∀x∈R.job b r m l,x.1≠fd->∃t,N.pageAt x.1 b r=some ⟨C8 x.2,false,t⟩
 inn:RowIn N b r m l
namespace Full
variable {fd : Int} {N : Nand} {b r m : Int} {l : List En}
theorem keep (h:Full fd N b r m l) {N':Nand} (like:N.Like N') (hp:∀x∈R.job b r m l,N'.pageAt x.1 b r=N.pageAt x.1 b r):Full fd N' b r m l:=
 ⟨h.is.like like,λx hx hne=>by rw[hp x hx];exact h.good x hx hne,λx hx c hc=>h.inn x hx c (by rw[<- hp x hx];exact hc)⟩
theorem okAll2 (h:Full fd N b r m l) (hoff:N.off=false) (hdead:∀x∈R.job b r m l,x.1≠fd->N.dead.getD x.1.toNat false=false) {i:Nat} (hi:i<l.length):okG (gOf N b r m l) l.length i=true:=by
 have hjl:(R.job b r m l).length=l.length+1:=by simp[R.job]
 have hg:∀k x,(R.job b r m l)[k]? =some x->x.1≠fd->gOf N b r m l k=true:=λk x hk hne=>by
  have hx:=List.mem_of_getElem? hk;obtain⟨t,ht⟩:=h.good x hx hne;obtain⟨n1,n2,n3⟩:=h.is.inn x hx;have hr:N.refuses x.1 b r=0:=by
   unfold Nand.refuses;rw[hoff,if_neg (by decide),Nand.geoIn_of ⟨n1,n2⟩ h.is.blk h.is.row,if_neg (by decide),hdead x hx hne];rfl
  unfold gOf;rw[hk];show((M.look N x.1 b r).2==1)=true;rw[a0S (h.is.sh x hx).1 hr ht];rfl
 have hat:∀k,k<=l.length->∃x,(R.job b r m l)[k]? =some x:=λk hk=>⟨_,List.getElem?_eq_getElem (by omega)⟩;unfold okG;rw[Bool.or_eq_true];obtain⟨x,hx⟩:=hat i (by omega)
 by_cases hne:x.1=fd
 ·right;unfold a5Q;rw[List.all_eq_true];intro k hk;have hk:=List.mem_range.1 hk
  by_cases e:k=i
  ·simp[e]
  ·obtain⟨y,hy⟩:=hat k (by omega);have:y.1≠fd:=λe2=>e (by
    have hnd:=h.is.nodup;have e3:((R.job b r m l).map (·.1))[k]? =((R.job b r m l).map (·.1))[i]?:=by rw[List.getElem?_map,List.getElem?_map,hx,hy];simp[e2,hne]
    exact(List.getElem?_inj (by rw[List.length_map];omega) hnd).1 e3)
   rw[hg k y hy this];simp
 ·exact .inl (hg i x hx hne)
theorem okAll (h:Full fd N b r m l) (hoff:N.off=false) (hdead:∀i:Nat,(i:Int)≠fd->N.dead.getD i false=false) {i:Nat} (hi:i<l.length):okG (gOf N b r m l) l.length i=true:=
 h.okAll2 hoff (λx hx hne=>hdead _ (by have:=h.is.inn x hx;omega)) hi
theorem read (h:Full fd N b r m l) (hoff:N.off=false) (hdead:∀i:Nat,(i:Int)≠fd->N.dead.getD i false=false) {i:Nat} (hi:i<l.length):R.read N b r (i:Nat) m=(l.getD i En.zero,0):=by
 rw[(h.inn.part h.is).read h.is hoff hi,h.okAll hoff hdead hi,if_pos rfl]
end Full
theorem WroteR.page {N N':Nand} {b r:Int} {q:List (Int×Sh)} (h:WroteR N N' b r q) (hq:RdyR N b r q) {d b0 r0:Int} (hd:0<=d) (hb:0<=b0) (hr:0<=r0) (hne:b0=b->r0≠r):N'.pageAt d b0 r0=N.pageAt d b0 r0:=by
 unfold Nand.pageAt
 by_cases e:b0=b
 ·by_cases hx:∀x∈q,x.1.toNat≠d.toNat
  ·rw[h.rest _ _ (.inr hx)]
  ·simp only[Classical.not_forall,not_imp,Decidable.not_not]at hx;obtain⟨x,hx,hxd⟩:=hx;have hc:=h.cells x hx;rw[hxd,<- e]at hc;rw[hc];split
   ·rfl
   ·rename_i ha;have ha:N.dead.getD d.toNat false=false:=by simpa using ha
    have hl:=hq.cells x hx (by rw[hxd];exact ha);rw[hxd,<- e]at hl;have:=hne e;have:=hq.row;rw[List.getElem?_append];split
    ·rfl
    ·rw[List.getElem?_eq_none (by simp only[List.length_cons,List.length_nil];omega),List.getElem?_eq_none (by omega)]
 ·rw[h.rest _ _ (.inl (by have:=hq.blk;omega))]
structure Std (fd:Int) (S:Dv) (i:Int) (a:AtV):Prop where
 row:∃l,Full fd S.N a.block a.row a.mask l/\0<=a.slot/\a.slot.toNat<l.length/\(l.getD a.slot.toNat En.zero).lpn=i/\(l.getD a.slot.toNat En.zero).seq=a.seq/\(l.getD a.slot.toNat En.zero).role=a.role
 used:(S.t.at_ a.block).used=true
 below:a.block=S.op->a.row<S.row
 seq:1<=a.seq/\a.seq<S.next
structure Opn (fd:Int) (S:Dv):Prop where
 blk:0<=S.op/\S.op<S.N.blocks
 used:(S.t.at_ S.op).used=true
 row:0<=S.row/\S.row<=S.N.pages
 mask:Msk S.N.dies fd S.mask
 cells:∀d:Nat,L.has S.mask (d:Nat)=true->((S.N.blk d S.op.toNat).cells.length:Int)<=S.row/\(S.N.dead.getD d false=false->((S.N.blk d S.op.toNat).cells.length:Int)=S.row)
structure Inv (fd:Int) (S:Dv):Prop where
 lit:S.N.Lit
 dead:∀i:Nat,(i:Int)≠fd->S.N.dead.getD i false=false
 plan:∀a∈S.N.plan,a.1=fd
 flags:∀i j:Nat,(i:Int)≠fd->(S.N.blk i j).met=false/\(S.N.blk i j).fails=false
 tdead:L.set S.t.dead=true/\∀d:Int,L.has S.t.dead d=true->d=fd
 tbad:∀b,S.t.has b=true->L.set (S.t.at_ b).bad=true/\∀d:Int,L.has (S.t.at_ b).bad d=true->d=fd
 op:S.op= -1\/Opn fd S
 blank:∀b,S.t.has b=true->(S.t.at_ b).used=false->∀d:Nat,L.has (S.t.mask b) (d:Nat)=true->(S.N.blk d b.toNat).cells=[]
 st:∀i a,Tb.look S.T.at_ i=some a->Std fd S i a
theorem A7 {t:Tl} {b:Int} (hd:t.d<=8) (hb:t.has b=true) (h1:L.set t.dead=true) (h2:L.set (t.at_ b).bad=true):L.set (t.mask b)=true/\∀e:Int,L.has (t.mask b) e=((decide (0<=e)&&decide (e<t.d))&& !L.has t.dead e&& !L.has (t.at_ b).bad e):=by
 have ha:=L.set_all t.d hd;have x1:=a7M ha h1;have x2:=a7M x1.1 h2;unfold Tl.mask;rw[if_pos hb];exact⟨x2.1,λe=>by rw[Tl.alive,x2.2,x1.2,L.all_has _ hd]⟩
namespace Inv
variable {fd : Int} {S : Dv} {k m : Nat}
theorem msk (h:Inv fd S) (hO:S.Ok k m) {b:Int} (hb:S.t.has b=true):Msk S.N.dies fd (S.t.mask b):=by
 have hg:=hO.gd.ok.bd16;have hd:=hO.t.d;obtain⟨m1,m2⟩:=A7 (by omega) hb h.tdead.1 (h.tbad b hb).1;refine⟨m1,λd hh=>?_,λd hlt hne=>?_⟩
 ·rw[m2]at hh;simp only[Bool.and_eq_true,decide_eq_true_eq]at hh;omega
 ·rw[m2,decide_eq_true (p:=(0:Int)<=(d:Int)) (by omega),decide_eq_true (p:=(d:Int)<S.t.d) (by omega)];have e1:L.has S.t.dead (d:Nat)=false:=by
   cases hh:L.has S.t.dead (d:Nat)with
   | false=>rfl
   | true=>exact absurd (h.tdead.2 _ hh) hne
  have e2:L.has (S.t.at_ b).bad (d:Nat)=false:=by
   cases hh:L.has (S.t.at_ b).bad (d:Nat)with
   | false=>rfl
   | true=>exact absurd ((h.tbad b hb).2 _ hh) hne
  rw[e1,e2];rfl
theorem usable (h:Inv fd S) (hO:S.Ok k m) {b:Int} (hb:S.t.has b=true):S.t.usable b=true:=by
 have hg:=hO.gd.ok.bd16;have:=((h.msk hO hb).pos hg.1).1;unfold Tl.usable;exact decide_eq_true (by omega)
theorem read (h:Inv fd S) {i:Int} {a:AtV} (ha:Tb.look S.T.at_ i=some a):∃e,R.read S.N a.block a.row a.slot a.mask=(e,0)/\e.lpn=i/\e.seq=a.seq/\e.role=a.role:=by
 obtain⟨l,h1,h2,h3,h4,h5,h6⟩:=(h.st i a ha).row;refine⟨_,?_,h4,h5,h6⟩;have:=h1.read h.lit.off h.dead h3
 rwa [show((a.slot.toNat:Nat):Int)=a.slot from by omega]at this
end Inv
theorem a8o {N:Nand} {d b r:Int} (h:(N.blk d.toNat b.toNat).cells.length<=r.toNat):(M.look N d b r).2=2\/(M.look N d b r).2=4:=by
 have hp:N.pageAt d b r=none:=List.getElem?_eq_none h;have hr:N.refuses d b r=0\/N.refuses d b r=9\/N.refuses d b r=3\/N.refuses d b r=8:=by
  unfold Nand.refuses;split
  ·simp
  ·split
   ·simp
   ·split<;>simp
 have he:N.readE d b r=5\/N.readE d b r=9\/N.readE d b r=3\/N.readE d b r=8:=by
  unfold Nand.readE;rw[hp];rcases hr with e | e | e | e<;>rw[e]<;>simp
 unfold M.look;simp only;rcases he with e | e | e | e<;>rw[e]<;>simp
theorem b0Z {N:Nand} {b r:Int} (h:∀d:Nat,(M.look N (d:Nat) b r).2≠1):R.all N b r=[]:=by
 have:(M.rowN N b r N.dies).filterMap M.maskOf=[]:=by
  refine List.filterMap_eq_nil_iff.2 λx hx=>?_;unfold M.rowN at hx;obtain⟨d,_,rfl⟩:=List.mem_map.1 hx;unfold M.maskOf;rw[if_neg (h d)]
 unfold R.all M.masks;rw[this];rfl
def u8 (x:Int):UInt8:=UInt8.ofNat (x % 256).toNat
namespace V
theorem step_tb' (N:Nand) (L:List Fnd) (s:Sst) (k:Nat):(step N L s k).tb=if(standOf (of L k)).2=true then s.tb.put (standOf (of L k)).1.en (standOf (of L k)).1.block (standOf (of L k)).1.row (standOf (of L k)).1.slot (standOf (of L k)).1.mask else s.tb:=by
 unfold step
 by_cases h:(standOf (of L k)).2=true
 ·rw[if_pos h,if_pos h];split
  ·rfl
  ·split<;>rfl
 ·rw[if_neg h,if_neg h]
theorem look_put (t:Tb) (e:En) (b r s m:Int) (i:Int):Tb.look (t.put e b r s m).at_ i=if t.putB e=true/\i=e.lpn then some ⟨b,r,s,m,e.seq,e.role⟩else Tb.look t.at_ i:=by
 unfold Tb.put
 by_cases h:t.putB e=true
 ·rw[if_pos h];show Tb.look (Tb.put1 t.at_ e.lpn _) i=_;rw[Tb.look_put1]
  by_cases hi:i=e.lpn
  ·rw[if_pos hi,if_pos ⟨h,hi⟩]
  ·rw[if_neg hi,if_neg (λh=>hi h.2)]
 ·rw[if_neg h,if_neg (λh'=>h h'.1)]
theorem goS_look (N:Nand) (L:List Fnd) (n:Int):∀k i:Nat,Tb.look (goS N L n k).tb.at_ (i:Int)=if i<k/\(standOf (of L i)).2=true/\Tb.ok (Tb.new n) (standOf (of L i)).1.en=true then some ⟨(standOf (of L i)).1.block,(standOf (of L i)).1.row,(standOf (of L i)).1.slot,(standOf (of L i)).1.mask,(standOf (of L i)).1.en.seq,(standOf (of L i)).1.en.role⟩else none
 | 0,i=>by rw[if_neg (by omega)];rfl
 | k+1,i=>by
  have ih:=goS_look N L n k;have hlog:(goS N L n k).tb.logical=(Tb.new n).logical:=goS_log N L n k;rw[goS_succ,step_tb']
  by_cases hs:(standOf (of L k)).2=true
  ·have hlpn:(standOf (of L k)).1.en.lpn=k:=by
    have:=(List.mem_filter.1 (standOf_mem hs)).2;exact eq_of_beq this
   have hok:(goS N L n k).tb.putB (standOf (of L k)).1.en=Tb.ok (Tb.new n) (standOf (of L k)).1.en:=by
    unfold Tb.putB Tb.elder;rw[hlpn,ih k,if_neg (by omega)];unfold Tb.ok;rw[hlog];simp
   rw[if_pos hs,look_put,hok,hlpn,ih i]
   by_cases hik:i=k
   ·subst hik
    by_cases ho:Tb.ok (Tb.new n) (standOf (of L i)).1.en=true
    ·rw[if_pos ⟨ho,rfl⟩,if_pos ⟨by omega,hs,ho⟩]
    ·rw[if_neg (λh=>ho h.1),if_neg (by omega),if_neg (λh=>ho h.2.2)]
   ·rw[if_neg (λh=>hik (by omega))]
    by_cases hc:(standOf (of L i)).2=true/\Tb.ok (Tb.new n) (standOf (of L i)).1.en=true
    ·by_cases hlt:i<k
     ·rw[if_pos ⟨hlt,hc⟩,if_pos ⟨by omega,hc⟩]
     ·rw[if_neg (λh=>hlt h.1),if_neg (λh=>by omega)]
    ·rw[if_neg (λh=>hc h.2),if_neg (λh=>hc h.2)]
  ·rw[if_neg hs,ih i]
   by_cases hik:i=k
   ·subst hik;rw[if_neg (by omega),if_neg (λh=>hs h.2.1)]
   ·by_cases hc:(standOf (of L i)).2=true/\Tb.ok (Tb.new n) (standOf (of L i)).1.en=true
    ·by_cases hlt:i<k
     ·rw[if_pos ⟨hlt,hc⟩,if_pos ⟨by omega,hc⟩]
     ·rw[if_neg (λh=>hlt h.1),if_neg (λh=>by omega)]
    ·rw[if_neg (λh=>hc h.2),if_neg (λh=>hc h.2)]
end V
end Go.Proofs.YtnffkcabeecopaaGreat
