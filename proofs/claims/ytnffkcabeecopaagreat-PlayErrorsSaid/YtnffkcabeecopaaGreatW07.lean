/- Helpers. No condition. -/
import Derived.Test.YtnffkcabeecopaaGreatW03
import Derived.Test.YtnffkcabeecopaaGreatW04
import Derived.Test.YtnffkcabeecopaaGreatW06
set_option maxRecDepth 20000
set_option linter.all false
namespace Go.Proofs.YtnffkcabeecopaaGreat
open Go Go.RowKit
theorem Rd.drop {A:Atom} {b o size n:Nat} {xs:List Value} (h:Rd A (some ⟨b,o,none⟩) size n xs) (k:Nat) (hk:k<=n):Rd A (some ⟨b,o+k*size,none⟩) size (n-k) (xs.drop (k*size)):=by
 intro h' s;obtain⟨h0,h1⟩:=h h' s;have hle:k*size<=n*size:=Nat.mul_le_mul_right _ hk;refine⟨by rw[List.length_drop,h0,Nat.sub_mul],λhk0=>?_⟩;obtain⟨b',o',cs,ty,fr,e1,e2,e3⟩:=h1 (by omega);simp only[Option.some.injEq,Addr.mk.injEq,and_true]at e1;obtain⟨rfl,rfl⟩:=e1;refine⟨b,_,cs,ty,fr,rfl,e2,?_⟩;rw[<- e3,List.drop_take,List.drop_drop,Nat.sub_mul]
section
variable {P : Program} {E : Env} {n : Nat} {a : Act} {w : World}
theorem x5 {lv:List Lk} {o:Oper} {t:TypeId} {x y:Operand} {k1 k2 u1 u2 t2:Nat} {g1 g2:G} {xs ys:List Value} (hop:o.op= .binOp .eql t x y t2) (hx:ev E x=some ⟨k1, .agg xs.toArray,u1,g1⟩) (hy:ev E y=some ⟨k2, .agg ys.toArray,u2,g2⟩) (he:EnvOK n E a) (v1:g1.on=true) (v2:g2.on=true)
  (hl:C2 P 100 t=some lv) (fx:Fits lv xs) (fy:Fits lv ys) (hm:∀zs,mkV P t zs= .agg zs.toArray) (hg:P.eqGuardType P.depth t=false):(execOp a.eval o).run P w= .ok (.value (.bool (j6 xs ys))) w:=by
 have ex:=i5 he hx;have ey:=i5 he hy;simp only[Slot.val,v1,v2]at ex ey;have h:=a3a (w:=w) hl fx fy (hm _) (hm _);simp[execOp,hop,ex,ey,eqGuard,hg,h,Sem.run_bind]
theorem b0h {lv:List Lk} {o:Oper} {t:TypeId} {x y:Operand} {k1 k2 u1 u2 t2:Nat} {g1 g2:G} {xs ys:List Value} (hop:o.op= .binOp .neq t x y t2) (hx:ev E x=some ⟨k1, .agg xs.toArray,u1,g1⟩) (hy:ev E y=some ⟨k2, .agg ys.toArray,u2,g2⟩) (he:EnvOK n E a) (v1:g1.on=true) (v2:g2.on=true)
  (hl:C2 P 100 t=some lv) (fx:Fits lv xs) (fy:Fits lv ys) (hm:∀zs,mkV P t zs= .agg zs.toArray) (hg:P.eqGuardType P.depth t=false):(execOp a.eval o).run P w= .ok (.value (.bool (!j6 xs ys))) w:=by
 have ex:=i5 he hx;have ey:=i5 he hy;simp only[Slot.val,v1,v2]at ex ey;have h:=a2Y (w:=w) hl fx fy (hm _) (hm _);simp[execOp,hop,ex,ey,eqGuard,hg,h,Sem.run_bind]
end
def b7p:List Lk:=[.int .u8, .int .u8, .int .u8, .int .u8, .int .u8, .int .u8, .int .u8, .int .u8, .int .u8, .int .u8, .int .u8, .int .u8, .int .u8, .int .u8, .int .u8, .int .u8, .int .u8, .int .u8, .int .u8, .int .u8, .int .u8, .int .u8, .int .u8, .int .u8, .int .u8, .int .u8, .int .u8, .int .u8, .int .u8, .int .u8, .int .u8, .int .u8]
theorem a3y:C2 Tryz.prog 100 106=some b7p:=by kernel_rfl
theorem a1D (p:List UInt8):Fits b7p (y9 p):=⟨rfl,rfl,rfl,rfl,rfl,rfl,rfl,rfl,rfl,rfl,rfl,rfl,rfl,rfl,rfl,rfl,rfl,rfl,rfl,rfl,rfl,rfl,rfl,rfl,rfl,rfl,rfl,rfl,rfl,rfl,rfl,rfl,trivial⟩
theorem b4N (zs:List Value):mkV Tryz.prog 106 zs= .agg zs.toArray:=by simp[mkV,Tryz.underlying106]
theorem b7t:Tryz.prog.eqGuardType Tryz.prog.depth 106=false:=by kernel_rfl
theorem b6B (x y:List UInt8) (hx:x.length=32) (hy:y.length=32):j6 (y9 x) (y9 y)=decide (x=y):=by rw[C1 x hx,C1 y hy,R4]
def lvD:List Lk:=[.int .u8, .int .u8, .int .u8, .int .u8, .int .u8, .int .u8, .int .u8, .int .u8, .int .u8, .int .u8, .int .u8, .int .u8, .int .u8, .int .u8, .int .u8, .int .u8]
theorem B8 (p:List UInt8):Fits lvD (j8 p):=⟨rfl,rfl,rfl,rfl,rfl,rfl,rfl,rfl,rfl,rfl,rfl,rfl,rfl,rfl,rfl,rfl,trivial⟩
theorem eqD (x y:List UInt8) (hx:x.length=16) (hy:y.length=16):j6 (j8 x) (j8 y)=decide (x=y):=by rw[L8 x hx,L8 y hy,R4]
theorem E5:C2 Tryz.prog 100 30=some lvD:=by kernel_rfl
theorem mkD (zs:List Value):mkV Tryz.prog 30 zs= .agg zs.toArray:=by simp[mkV,Tryz.underlying30]
theorem gdD:Tryz.prog.eqGuardType Tryz.prog.depth 30=false:=by kernel_rfl
def shL (s:Sh):List Value:=[byC s.data 0,byC s.data 1,byC s.data 2,byC s.data 3,byC s.data 4,byC s.data 5,byC s.data 6,byC s.data 7,byC s.data 8,byC s.data 9,byC s.data 10,byC s.data 11,byC s.data 12,byC s.data 13,byC s.data 14,byC s.data 15,
 iI s.role,iI s.lpn,iI s.seq,iI s.kind,iI s.block,iI s.row,iI s.mask]
abbrev shV (s:Sh):Value:= .agg (shL s).toArray
abbrev pgV (p:List UInt8):Value:= .agg (y9 p).toArray
theorem b3i (role lpn seq:Int):FP 247 [iI role,iI lpn,iI seq] [] (Ps (.int .u64 (S.meta_ role lpn seq)) []):=Fn.of_same (a2S role lpn seq)
theorem b6w (m:Nat) (hm:m<18446744073709551616):FP 241 [.int .u64 m] [] (Ps (.tuple #[iI (m/72057594037927936:Nat),iI (m/1099511627776 % 65536:Nat),iI (m % 1099511627776:Nat)]) []):=Fn.of_same (a6J m hm)
def C8 (s:Sh):List UInt8:=if S.may s then S.put s else U0
theorem X6 (s:Sh) (h:s.data.length=16):(C8 s).length=32:=by
 unfold C8;split
 ·exact S.length_put s h
 ·rfl
theorem b3m (p:List UInt8) (h:p.length=32):(S.getV p).data.length=16:=by
 unfold S.getV S.get;split
 ·simp[S.fields,h]
 ·rfl
section
variable {P : Program} {T : Tab} {E : Env} {w : World} {n0 : Nat} {a : Act}
theorem V1 (hT:TabOK P T) {o:Oper} {ty e len:Nat} {x y:Operand} {k1 k2 t1 t2:Nat} {g1 g2:G} {ik:IntKind} {i:Int} {cs:Array Value} {v:Value} {ti:TI} (hop:o.op= .index ty x y) (hx:ev E x=some ⟨k1, .agg cs,t1,g1⟩) (hy:ev E y=some ⟨k2, .int ik i,t2,g2⟩) (he:EnvOK n0 E a) (v1:g1.on=true) (v2:g2.on=true)
  (hd:P.underlying ty=some (.array len e)) (hti:T.get e=some ti) (h1:ti.d.one=true) (hs:Nat.beq ti.size 1=true) (h0:0<=i) (hl:i<(len:Int)) (hv:cs[i.toNat]? =some v):(execOp a.eval o).run P w= .ok (.value v) w:=by
 have ex:=i5 he hx;have ey:=i5 he hy;simp only[Slot.val,v1,v2]at ex ey;obtain⟨d,f,z,ok⟩:=i3 (hT.get hti);have hsz:f.size=1:=by rw[<- ok.hsize];exact Nat.eq_of_beq_eq_true hs
 have hp:=a3h (P:=P) (w:=w) ok.hd ok.hf cs i.toNat
 rw[ok.one h1,hv]at hp;simp only[execOp,hop,ex,ey,Instr.index,asIntOf,Sem.run_bind,Sem.run_pure,Result.andThen_ok,d7 hd,if_pos (And.intro h0 hl),m6 ok.hf,hsz,Nat.mul_one,hp];simp
end
theorem b3g (n a:Int):FP 264 [iI n,iI a] [] (Ps (.bool (S.inB n a)) []):=by
 refine FE [0,0] Tryz.func264 λX F hX=>?_;exact J.qx []
theorem b5g (s:Sh) (h:s.data.length=16):FP 265 [shV s] [] (Ps (.bool (S.entry s)) []):=by
 refine FE [0] Tryz.func265 λX F hX=>?_;refine J.q λ_=>?_;refine J.v (.bool (decide (s.data=zeros16))) rfl rfl (λhg a w he hs=>?_) ?_
 ·rw[<- eqD s.data zeros16 h rfl];exact x5 (xs:=j8 s.data) (ys:=j8 zeros16) rfl rfl rfl he rfl rfl E5 (B8 _) (B8 _) mkD gdD
 refine J.qd (λ_ h1=>?_) λ_ h1=>?_
 ·rw[beq_iff_eq]at h1;refine J.qr [] λ_=>?_;exact⟨by rw[S.entry,if_pos h1],rfl⟩
 rw[beq_eq_false_iff_ne]at h1;refine J.qd (λ_ h2=>?_) λ_ h2=>?_
 ·rw[h2];rw[beq_iff_eq]at h2;refine J.qT λ_=>?_;refine J.qr [] λ_=>?_;exact⟨by rw[S.entry,if_neg h1,if_pos (.inl h2)],rfl⟩
 rw[beq_eq_false_iff_ne]at h2;refine J.qd (λ_ h4=>?_) λ_ h4=>?_
 ·rw[beq_iff_eq]at h4;refine J.qr [] λ_=>?_;exact⟨by rw[S.entry,if_neg h1,if_pos (.inr h4)],rfl⟩
 rw[beq_eq_false_iff_ne]at h4;refine J.qd (λ_ h3=>?_) λ_ h3=>?_
 ·rw[beq_iff_eq]at h3;refine J.qr [] λ_=>?_;exact⟨by rw[S.entry,if_neg h1,if_neg (by omega),if_pos h3];rfl,rfl⟩
 rw[beq_eq_false_iff_ne]at h3;refine J.qr [] λ_=>?_;exact⟨by rw[S.entry,if_neg h1,if_neg (by omega),if_neg h3],rfl⟩
theorem a5c (s:Sh) (h:s.data.length=16):FP 238 [shV s] [] (Ps (.bool (S.may s)) []):=by
 have hc:=L.count_le s.mask;have e:∀k:Nat,decide ((k:Int)>=2)=decide (2<=k):=λk=>by rw[Bool.eq_iff_iff];simp;omega
 refine FE [0] Tryz.func238 λX F hX=>?_;refine J.qp (b3g s.block 15) [] λ_=>?_;refine J.q λ_=>?_;refine J.cg hX (b3g s.row 7) ?_;refine J.q λ_=>?_;refine J.cg hX (a0T s.mask) ?_;refine J.qp (b3g s.seq 1099511627775) [] λ_=>?_;refine J.q λ_=>?_;refine J.cg hX (b3g s.lpn 65535) ?_;refine J.q λ_=>?_;refine J.cg hX (b3g s.role 255) ?_;refine J.q λ_=>?_;refine J.cg hX (b5g s h) ?_;refine J.run hX tk 400 (λb20=>rfl) (λb20=>?_) (λb20=>?_)
 ·repeat' (first | exact Conj.nil | refine Conj.cons ?_ ?_ | (intros;first | assumption | simp_all))
 refine J.ru hX [] ?_;exact⟨by rw[S.may,S.place,S.numbers,<- e];rfl,rfl⟩
theorem hbv (l:List UInt8):∀u∈l.map bv,u.oneCell'=true:=λu hu=>by
 obtain⟨x,_,rfl⟩:=List.mem_map.1 hu;rfl
theorem b5H (d z q:List UInt8) (hd:d.length=16) (hz:z.length=16) (hq:q.length<=16):(y9 (d++z)).take 16++q.map bv++(y9 (d++z)).drop (16+(q.map bv).length)=y9 (d++(q++z.drop q.length)):=by
 rw[C1 _ (by rw[List.length_append];omega),C1 _ (by simp only[List.length_append,List.length_drop];omega),List.length_map,<- hd,List.map_append,List.take_left' (List.length_map _),List.map_append,List.map_append,List.append_assoc];congr 2;rw[<- List.map_append,<- List.map_drop,List.drop_append,List.map_append,List.drop_eq_nil_of_le (by omega),List.map_nil,List.nil_append,Nat.add_sub_cancel_left]
def hdF (s:Sh):Nat->Int | 0=>s.block | 1=>s.row | 2=>s.mask | _=>s.kind
def hdk (s:Sh):Nat->List Bool | 0=>[]++Bt.bits (S.meta_ s.role s.lpn s.seq) 64 | k+1=>hdk s k++Bt.bits (hdF s k).toNat 8
theorem u4i:Tryz.prog.underlying 312=some (.array 4 3):=by kernel_rfl
theorem b3h (s:Sh) (h:s.data.length=16):FP 210 [shV s] [] (Ps (.tuple #[pgV (C8 s), .bool (S.may s)]) []):=by
 refine FE [0] Tryz.func210 λX F hX=>?_;refine J.q λbb=>?_;refine J.cb (a5c s h) [] ?_;refine cpq ⟨_,rfl,trivial,?_⟩;cases hm:S.may s with
 | false=>
  refine J.qT λ_=>?_;refine J.qr [] λ_=>?_;exact⟨by rw[C8,hm];rfl,rfl⟩
 | true=>
  obtain⟨m1,m2,m3,m4⟩:=S.may_bounds s hm;have hF:∀k,0<=hdF s k/\(hdF s k).toNat<2^8:=λk=>by
   unfold hdF;split<;>constructor<;>first | omega | (rw[show(2:Nat)^8=256 from rfl];omega)
  have hkl:∀k,(hdk s k).length=64+8*k:=λk=>by
   induction k with
   | zero=>simp[hdk,Bt.length_bits]
   | succ k ih=>rw[hdk,List.length_append,ih,Bt.length_bits];omega
  refine J.qF λ_=>?_;refine J.q λcc=>?_;refine J.turn1 [] rfl (As:=[c9 5 1 none 0 0 []]) (λh s=>Sep.one ⟨rfl,rfl,rfl⟩) rfl ?_;refine J.cl (a6X (cc 0) []) (none,0) [4,5] ?_;refine J.qp ((Fn.of_same (a2S s.role s.lpn s.seq))) [] λ_=>?_;refine J.q λ_=>?_;refine J.ca hX (by kernel_rfl) (a9z (cc 0) _ 64 [] (by decide) (by decide) (S.meta_lt _ _ _) (by decide)) [4] 0 rfl rfl rfl rfl rfl rfl (λ_=>rfl) ?_;refine cpq ⟨_,rfl,trivial,?_⟩;refine J.q λ_=>?_;refine J.l (α:=Nat) (λk=>k<=4) (λk=>[si 32 k,⟨31, .agg #[iI s.block,iI s.row,iI s.mask,iI s.kind],0, .tt⟩,⟨5,pp (cc 0),5, .tt⟩,⟨1,pp (bb 0),2, .tt⟩,⟨2,pp (bb (0+1)),3, .tt⟩,⟨4,pp (bb (0+1+1)),4, .tt⟩]) [4] (λk=>[a1j (cc 0) (hdk s k)]) (λk=>4-k) (0) (Nat.zero_le _) λk hI=>?_;refine J.qd (λ_ h1=>?_) λ_ h1=>?_
  ·simp only[decide_eq_true_eq]at h1;refine J.q λ_=>?_;refine J.v (iI (hdF s k)) rfl rfl (λhg a w he hw=>V1 tk rfl rfl rfl he rfl rfl u4i rfl rfl rfl (by omega) (by omega) (by rcases(by omega:k=0\/k=1\/k=2\/k=3)with rfl | rfl | rfl | rfl<;>rfl)) ?_;have hq:=hF k;have hq2:(hdF s k).toNat<256:=hq.2;have hk2:=hkl k;refine J.qp (b6M (cc 0) (hdF s k) 8 (hdk s k) (by decide) (by decide) hq.1 hq.2 (by omega)) [4] λ_=>?_;refine J.q λ_=>?_;refine J.n (k+1) (by omega) (by omega) [0,1,2,3,4,5]
  simp only[decide_eq_false_iff_not]at h1;obtain rfl:k=4:=by omega
  have hk4:=hkl 4;have hp4:(Bt.pack (hdk s 4)).length=12:=by rw[Bt.length_pack,hk4]
  refine J.pq (.of [0,4,8,14]) [] [1] λ_ _=>?_;refine J.copy hX tk 3 1 rfl rfl rfl rfl rfl rfl rfl rfl rfl rfl ((W4 (bb 0) _ (shL s) 1 23 rfl).take 16 (by decide)) rfl rfl (j8 s.data) rfl (Nat.le_of_ble_eq_true rfl) (by rw[show(shL s).take (16*1)=j8 s.data from rfl,L8 _ h];exact hbv _) (y9 (s.data++zeros16)) (by rw[C1 _ (by rw[List.length_append,h];rfl),List.map_append,L8 _ h,List.length_map,h];rfl) rfl (λ_=>rfl) ⟨⟨rfl,trivial⟩,?_⟩;refine J.p (.of [0,4,10,14]) [] [] λ_=>?_;refine J.qc (a6p (cc 0) (hdk s 4) (by omega)) [4] λ_=>?_;rintro v As ⟨a,c,rfl,rfl⟩;refine⟨_,rfl,trivial,?_⟩;rw[hk4,show(64+8*4+7)/8=12 from rfl];refine J.know (λh' s=>i9 (c:=(a,c)) (by decide) (s.get (i:=6) rfl)) λhg=>?_;obtain⟨g,rfl⟩:=hg;refine J.q λ_=>?_;refine J.copy hX tk 3 6 rfl rfl rfl rfl rfl rfl rfl rfl rfl rfl (D0 _ _ _ _ _ _) rfl rfl ((Bt.pack (hdk s 4)).map bv) (List.take_of_length_le (by rw[List.length_map,hp4];decide)) (by rw[List.length_map,hp4];exact Nat.le_of_ble_eq_true rfl) (hbv _) _ (b5H s.data zeros16 _ h rfl (by rw[hp4];decide)) rfl (λ_=>rfl) ⟨trivial,?_⟩;rw[hp4];have hQ:(s.data++(Bt.pack (hdk s 4)++zeros16.drop 12)).length=32:=by rw[List.length_append,List.length_append,h,hp4];rfl
  have hQ2:(s.data++(Bt.pack (hdk s 4)++zeros16.drop 12)).take 28=s.data++Bt.pack (hdk s 4):=by rw[<- List.append_assoc];exact List.take_left' (by rw[List.length_append,h,hp4])
  have hR:=(W4 (bb (0+1+1)) 106 (y9 (s.data++(Bt.pack (hdk s 4)++zeros16.drop 12))) 1 32 rfl).take 28 (by decide);rw[C1 _ hQ,Nat.mul_one,<- List.map_take,hQ2,<- C1 _ hQ]at hR;refine J.q λ_=>?_;refine J.ca hX (by kernel_rfl) (b7J _ _ 28 32 _ hR (by rw[List.length_append,h,hp4]) (by decide)) [3] 0 rfl rfl rfl rfl rfl rfl (λ_=>rfl) ?_;refine cpq ⟨_,rfl,trivial,?_⟩;have hsum:=K.sum_lt (s.data++Bt.pack (hdk s 4));refine J.q λ_=>?_;refine J.ca hX (by kernel_rfl) (a9z (cc 0) _ 32 (hdk s 4) (by decide) (by decide) hsum (by omega)) [4] 0 rfl rfl rfl rfl rfl rfl (λ_=>rfl) ?_;refine cpq ⟨_,rfl,trivial,?_⟩;have hl5:(hdk s 4++Bt.bits (K.sum (s.data++Bt.pack (hdk s 4))) 32).length=128:=by rw[List.length_append,hk4,Bt.length_bits]
  have hput:C8 s=s.data++Bt.pack (hdk s 4++Bt.bits (K.sum (s.data++Bt.pack (hdk s 4))) 32):=by rw[C8,if_pos hm];rfl
  generalize hdk s 4++Bt.bits (K.sum (s.data++Bt.pack (hdk s 4))) 32=L at hl5 hput ⊢;have hp5:(Bt.pack L).length=16:=by rw[Bt.length_pack,hl5]
  refine J.p (.of [0,4,10,14]) [] [] λ_=>?_;refine J.qc (a6p (cc 0) L (by omega)) [4] λ_=>?_;rintro v As ⟨a,c,rfl,rfl⟩;refine⟨_,rfl,trivial,?_⟩;rw[hl5,show(128+7)/8=16 from rfl];refine J.know (λh' s=>i9 (c:=(a,c)) (by decide) (s.get (i:=7) rfl)) λhg=>?_;obtain⟨g',rfl⟩:=hg;refine J.q λ_=>?_;refine J.copy hX tk 3 7 rfl rfl rfl rfl rfl rfl rfl rfl rfl rfl (D0 _ _ _ _ _ _) rfl rfl ((Bt.pack L).map bv) (List.take_of_length_le (by rw[List.length_map,hp5];decide)) (by rw[List.length_map,hp5];exact Nat.le_of_ble_eq_true rfl) (hbv _) _ (b5H s.data _ _ h (by rw[List.length_append,hp4];rfl) (by rw[hp5];decide)) rfl (λ_=>rfl) ⟨trivial,?_⟩;rw[hp5,show(Bt.pack (hdk s 4)++zeros16.drop 12).drop 16=[]from List.drop_eq_nil_of_le (by rw[List.length_append,hp4];decide),List.append_nil,<- hput];refine J.qr [] λ_=>?_;exact⟨by rw[hm];rfl,rfl⟩
def sel (j k:Nat) (x:Nat):Int:=if j<k then x else 0
theorem u4p:Tryz.prog.underlying 322=some (.array 4 321):=by kernel_rfl
def gof:Nat->Nat | 0=>20 | 1=>21 | 2=>22 | _=>19
def gtk (m:Nat) (b:List UInt8) (k:Nat):List Value:=[iI (m/72057594037927936:Nat),iI (m/1099511627776 % 65536:Nat),iI (m % 1099511627776:Nat),iI (sel 3 k (Bt.numAt b 88 8)),iI (sel 0 k (Bt.numAt b 64 8)),iI (sel 1 k (Bt.numAt b 72 8)),iI (sel 2 k (Bt.numAt b 80 8))]
theorem b3j (p:List UInt8) (h:p.length=32):FP 215 [pgV p] [] (Ps (.tuple #[shV (S.getV p),iI (S.getE p)]) []):=by
 have hpl:(p.take 16).length=16:=by rw[List.length_take,h];rfl
 have hb:(p.drop 16).length=16:=by rw[List.length_drop,h]
 have hpc:(y9 p).take 16=j8 (p.take 16):=by rw[C1 p h,L8 _ hpl,List.map_take]
 have hone:∀u∈y9 p,u.oneCell'=true:=by rw[C1 p h];exact hbv p
 have hm:Bt.numAt (p.drop 16) 0 64<18446744073709551616:=Bt.numAt_lt _ 0 64;have hf:=λk=>Bt.numAt_lt (p.drop 16) k 8;rw[show(2:Nat)^8=256 from rfl]at hf;refine FE [0] Tryz.func215 λX F hX=>?_;refine J.q λbb=>?_;refine J.plan (.of [0,4,8,14]) [] [1] (by rw[hX.hP];kernel_rfl) (by kernel_rfl) ?_;refine J.q λ_=>?_;refine J.copy hX tk 3 1 rfl rfl rfl rfl rfl rfl rfl rfl rfl rfl (W4 (bb 0) _ (y9 p) 1 32 rfl) rfl rfl (j8 (p.take 16)) hpc (Nat.le_of_ble_eq_true rfl) hone (shL ⟨p.take 16,0,0,0,0,0,0,0⟩) rfl rfl (λ_=>rfl) ⟨⟨rfl,trivial⟩,?_⟩;have hR:=(W4 (bb 0) 106 (y9 p) 1 32 rfl).drop 16 (by decide);rw[show(y9 p).drop (16*1)=(p.drop 16).map bv from by rw[C1 p h,List.map_drop]]at hR;refine J.qc (b3H (some ⟨bb 0,0+16*1,none⟩) 16 16) [] λ_=>?_;rintro v As ⟨g,rfl,rfl⟩;refine⟨_,rfl,trivial,?_⟩;refine J.q λ_=>?_;refine J.ca hX (by kernel_rfl) (b3I g _ _ 16 16 _ hR hb (by decide) 0 64 (by decide) (by decide) (by decide)) [4,1] 0 rfl rfl rfl rfl rfl rfl (λ_=>rfl) ?_;refine cpq ⟨_,rfl,trivial,?_⟩;refine J.qp ((Fn.of_same (a6J _ hm))) [] λ_=>?_;refine J.q λ_=>?_;refine J.l (α:=Nat) (λk=>k<=4) (λk=>[si 39 k,⟨38, .agg #[.pointer (some ⟨bb (0+1+1),0+20,none⟩), .pointer (some ⟨bb (0+1+1),0+21,none⟩), .pointer (some ⟨bb (0+1+1),0+22,none⟩), .pointer (some ⟨bb (0+1+1),0+19,none⟩)],0, .tt⟩,⟨1,pp (bb 0),2, .tt⟩,⟨2,pp (bb (0+1)),3, .tt⟩,⟨4,pp (bb (0+1+1)),4, .tt⟩,sp 5 g]) [3,4] (λk=>[.pt (bb (0+1+1)) 234 (j8 (p.take 16)++gtk (Bt.numAt (p.drop 16) 0 64) (p.drop 16) k), .pt g 335 [.slice (some ⟨bb 0,0+16*1,none⟩) 16 16,iI (64+8*k:Nat)]]) (λk=>4-k) (0) (Nat.zero_le _) λk hI=>?_;refine J.qd (λ_ h1=>?_) λ_ h1=>?_
 ·simp only[decide_eq_true_eq]at h1;have hq:=hf (64+8*k);have hk:k=0\/k=1\/k=2\/k=3:=by omega
  refine J.q λ_=>?_;refine J.v (.pointer (some ⟨bb (0+1+1),0+gof k,none⟩)) rfl rfl (λhg a w he hw=>V1 tk rfl rfl rfl he rfl rfl u4p rfl rfl rfl (by omega) (by omega) (by rcases hk with rfl | rfl | rfl | rfl<;>rfl)) ?_;refine J.q λ_=>?_;refine J.ca hX (by kernel_rfl) (b3I g _ _ 16 16 _ hR hb (by decide) (64+8*k) 8 (by decide) (by decide) (by omega)) [4,1] 0 rfl rfl rfl rfl rfl rfl (λ_=>rfl) ?_;refine cpq ⟨_,rfl,trivial,?_⟩;refine J.q λ_=>?_;refine J.s1 3 (j8 (p.take 16)++gtk (Bt.numAt (p.drop 16) 0 64) (p.drop 16) (k+1)) ?_ ?_ ?_
  ·rcases hk with rfl | rfl | rfl | rfl<;>exact Nat.le_of_ble_eq_true rfl
  ·rcases hk with rfl | rfl | rfl | rfl<;>rfl
  refine J.q λ_=>?_;refine J.n (k+1) (by omega) (by omega) [0,1,2,3,4]
 simp only[decide_eq_false_iff_not]at h1;obtain rfl:k=4:=by omega
 rw[show j8 (p.take 16)++gtk (Bt.numAt (p.drop 16) 0 64) (p.drop 16) 4=shL (S.fields p)from rfl];refine J.qp (b3h (S.fields p) hpl) [] λ_=>?_;refine J.q λ_=>?_;refine J.v (.bool (!decide (C8 (S.fields p)=p))) rfl rfl (λhg a w he hs=>?_) ?_
 ·rw[<- b6B _ p (X6 _ hpl) h];exact b0h (xs:=y9 (C8 (S.fields p))) (ys:=y9 p) rfl rfl rfl he hg hg a3y (a1D _) (a1D _) b4N b7t
 have hget:S.get p=if(!S.may (S.fields p)|| !decide (C8 (S.fields p)=p))=true then none else some (S.fields p):=by
  unfold S.get C8;cases S.may (S.fields p)<;>simp
 refine J.qd (λ_ h1=>?_) λ_ h1=>?_
 ·rw[if_pos h1]at hget;refine J.qr [] λ_=>?_;exact⟨by rw[S.getV,S.getE,hget];rfl,rfl⟩
 ·rw[if_neg (by rw[h1];decide)]at hget;refine J.qr [] λ_=>?_;exact⟨by rw[S.getV,S.getE,hget];rfl,rfl⟩
structure En where
 lpn:Int
 seq:Int
 role:Int
 data:List UInt8
def enL (e:En):List Value:=[iI e.lpn,iI e.seq,iI e.role,byC e.data 0,byC e.data 1,byC e.data 2,byC e.data 3,byC e.data 4,byC e.data 5,byC e.data 6,byC e.data 7,byC e.data 8,byC e.data 9,byC e.data 10,byC e.data 11,byC e.data 12,byC e.data 13,byC e.data 14,byC e.data 15]
abbrev enV (e:En):Value:= .agg (enL e).toArray
namespace W
def sh (b r m:Int) (e:En):Sh:=⟨e.data,e.role,e.lpn,e.seq,1,b,r,m⟩
def ok (b r m:Int) (e:En):Bool:=S.may (sh b r m e)
def own (b r m:Int) (e:En):Sh:=if ok b r m e then sh b r m e else Sh.zero
end W
theorem a6D (b r m:Int) (e:En) (h:e.data.length=16):FP 209 [iI b,iI r,iI m,enV e] [] (Ps (.tuple #[shV (W.own b r m e), .bool (W.ok b r m e)]) []):=by
 refine FE [0,0,0,0] Tryz.func209 λX F hX=>?_;refine J.qp (a5c (W.sh b r m e) h) [] λ_=>?_;refine J.qd (λ_ h1=>?_) λ_ h1=>?_
 ·simp only[Bool.not_eq_true']at h1;refine J.qr [] λ_=>?_;exact⟨by rw[W.own,W.ok,h1];rfl,rfl⟩
 ·simp only[Bool.not_eq_false']at h1;refine J.qr [] λ_=>?_;exact⟨by rw[W.own,W.ok,h1];rfl,rfl⟩
namespace W
def mix (x s:List UInt8) (k:Nat):List UInt8:=(List.zipWith (· ^^^ ·) x s).take k++x.drop k
def ovM (m x:Int):Int:=IntKind.u64.wrap ((BitVec.ofInt 64 m ^^^ BitVec.ofInt 64 x).toNat:Int)
def over1 (x:List UInt8×Int) (s:Sh):List UInt8×Int:=(mix x.1 s.data 16,ovM x.2 (S.meta_ s.role s.lpn s.seq))
def over (l:List Sh):List UInt8×Int:=l.foldl over1 (zeros16,0)
end W
def m7 (l:List Sh):List Value:=l.flatMap shL
theorem a8Q (s:Sh):(shL s).length=23:=rfl
theorem a0j:∀(l:List Sh) (r:List Value) (k:Nat) (x:Sh),l[k]? =some x->((m7 l++r).drop (k*23)).take 23=shL x
 | [],_,_,_,h=>by simp at h
 | y::l,r,0,x,h=>by
  simp at h;subst h;rw[Nat.zero_mul,List.drop_zero];simp only[m7,List.flatMap_cons,List.append_assoc];exact List.take_left' (a8Q y)
 | y::l,r,k+1,x,h=>by
  have:=a0j l r k x (by simpa using h);rw[show(k+1)*23=23+k*23 from by omega,<- List.drop_drop];simp only[m7,List.flatMap_cons,List.append_assoc]at this ⊢;rw[List.drop_left' (a8Q y)];exact this
theorem a5S {x s:List UInt8} (hx:x.length=16) (hs:s.length=16) (k:Nat) (hk:k<=16):(W.mix x s k).length=16:=by simp[W.mix,hx,hs];omega
theorem b4Q {x s:List UInt8} (hx:x.length=16) (hs:s.length=16) {k:Nat} (hk:k<16):(W.mix x s k).getD k 0=x.getD k 0:=by
 have e:(W.mix x s k)[k]? =x[k]?:=by
  rw[W.mix,List.getElem?_append_right (by simp[hx,hs];omega),List.getElem?_drop];congr 1;simp[hx,hs];omega
 rw[List.getD_eq_getElem?_getD,e,List.getD_eq_getElem?_getD]
theorem b4P {x s:List UInt8} (hx:x.length=16) (hs:s.length=16) {k:Nat} (hk:k<16):(W.mix x s k).set k (x.getD k 0 ^^^ s.getD k 0)=W.mix x s (k+1):=by
 apply List.ext_getElem?;intro j;rw[List.getElem?_set,a5S hx hs k (by omega)];simp only[W.mix,List.getElem?_append,List.length_take,List.length_zipWith,hx,hs,Nat.min_self,List.getElem?_take,List.getElem?_drop]
 by_cases e:k=j
 ·subst e;rw[if_pos rfl,if_pos hk,if_pos (by omega),if_pos (by omega)];simp[List.getElem?_zipWith,hx,hs,hk]
 ·rw[if_neg e]
  by_cases h1:j<k
  ·rw[if_pos (show j<min k 16 by omega),if_pos h1,if_pos (show j<min (k+1) 16 by omega),if_pos (show j<k+1 by omega)]
  ·rw[if_neg (show¬j<min k 16 by omega),if_neg (show¬j<min (k+1) 16 by omega),show k+(j-min k 16)=j from by omega,show k+1+(j-min (k+1) 16)=j from by omega]
theorem u81:Tryz.prog.underlying 30=some (.array 16 5):=by kernel_rfl
theorem a5n {x:List UInt8} (h:x.length=16) {k:Nat} (hk:k<16):(j8 x)[k]? =some (bv (x.getD k 0)):=by
 rw[L8 x h,List.getElem?_map];simp[h,hk]
theorem b0S {x:List UInt8} (h:x.length=16) {k:Nat} {b:UInt8}:(j8 x).set k (bv b)=j8 (x.set k b):=by
 rw[L8 x h,L8 _ (by simpa using h),List.map_set]
theorem b3P (b c:UInt8):IntKind.u8.wrap ((BitVec.ofInt IntKind.u8.bits (b.toNat:Int) ^^^ BitVec.ofInt IntKind.u8.bits (c.toNat:Int)).toNat:Int)=((b ^^^ c).toNat:Int):=by
 have h:=b1e b (c.toNat:Int);have h1:((c.toNat:Int) % 256)=c.toNat:=by have:=c.toNat_lt;omega
 have h2:IntKind.u8.wrap (c.toNat:Int)=(c.toNat:Int):=by
  have:IntKind.u8.wrap (c.toNat:Int)=(c.toNat:Int) % 256:=by simp[IntKind.wrap,IntKind.bits,IntKind.signed]
  rw[this,h1]
 rw[h2,h1]at h;simpa using h
theorem T5 {l:List Sh} (hd:∀s∈l,s.data.length=16):∀(x:List UInt8×Int),x.1.length=16->(l.foldl W.over1 x).1.length=16:=by
 induction l with
 | nil=>intro x h;exact h
 | cons s l ih=>intro x h;exact ih (λt ht=>hd t (by simp[ht])) _ (a5S h (hd s (by simp)) 16 (by omega))
theorem O4 (a:Option Nat) (n cap:Nat) (l:List Sh) (hl:l.length=n) (hn:n<=1000) (hd:∀s∈l,s.data.length=16):FP 239 [slv a n cap] [c9 234 23 a n cap (m7 l)]
  (Ps (.tuple #[.agg (j8 (W.over l).1).toArray, .int .u64 (W.over l).2]) [c9 234 23 a n cap (m7 l)]):=by
 refine FE [0] Tryz.func239 λX F hX=>?_;refine J.q λbb=>?_;refine J.l (α:=Nat) (λk=>k<=n) (λk=>[si 12 k,si 11 n,sv 10 (slv a n cap),⟨5, .int .u64 ((l.take k).foldl W.over1 (zeros16,0)).2,0, .tt⟩,⟨4,pp (bb (0+1)),4, .tt⟩,⟨2,pp (bb 0),3, .tt⟩]) [3] (λk=>[.pt (bb (0+1)) 30 (j8 ((l.take k).foldl W.over1 (zeros16,0)).1)]) (λk=>n-k) (0) (Nat.zero_le _) λk hI=>?_;have hxl:((l.take k).foldl W.over1 (zeros16,0)).1.length=16:=T5 (λt ht=>hd t (List.mem_of_mem_take ht)) _ rfl;refine J.qd (λ_ h1=>?_) λ_ h1=>?_
 ·simp only[decide_eq_true_eq,Int.ofNat_lt]at h1;obtain⟨s,hs⟩:∃s,l[k]? =some s:=⟨_,List.getElem?_eq_getElem (by omega)⟩;have hsl:s.data.length=16:=hd s (List.mem_of_getElem? hs);have hnext:(l.take (k+1)).foldl W.over1 (zeros16,0)=W.over1 ((l.take k).foldl W.over1 (zeros16,0)) s:=by
   rw[List.take_add_one,hs];simp
  generalize(l.take k).foldl W.over1 (zeros16,0)=x at hxl hnext;cases a with
  | none=>
   refine J.know (λh' s=>(s.get (i:=1) rfl).2.1) λhn0=>?_;omega
  | some g=>
   refine J.q λ_=>?_;refine J.v (shV s) rfl rfl (λhg a w he hw=>?_) ?_
   ·exact q9 tk rfl rfl he rfl rfl rfl (hw.get (i:=1) rfl) (by rw[show 0+(k:Int).toNat*23=k*23 from by omega];have:=a0j l [] k s hs;rwa [List.append_nil]at this) rfl
   refine J.q λcc=>?_;refine J.lo (α:=Nat) (λi=>i<=16) (λi=>[si 18 i,⟨17, .agg (j8 s.data).toArray,0, .tt⟩,⟨7,pp (cc 0),5, .tt⟩,si 12 k,si 11 n,sv 10 (slv (some g) n cap),⟨5, .int .u64 x.2,0, .tt⟩,⟨4,pp (bb (0+1)),4, .tt⟩,⟨2,pp (bb 0),3, .tt⟩]) [3] (λi=>[.pt (bb (0+1)) 30 (j8 (W.mix x.1 s.data i))]) (λi=>16-i) (0) (Nat.zero_le _) rfl ?_ (λ_=>rfl) λi hI=>?_
   ·rw[show W.mix x.1 s.data 0=x.1 from by simp[W.mix]];rfl
   have hml:=a5S hxl hsl i hI;refine J.qd (λ_ h2=>?_) λ_ h2=>?_
   ·simp only[decide_eq_true_eq]at h2;have h3:i<16:=by omega
    refine J.q λ_=>?_;refine J.v (bv (s.data.getD i 0)) rfl rfl (λhg a w he hw=>?_) ?_
    ·exact V1 tk rfl rfl rfl he rfl rfl u81 rfl rfl rfl (by omega) (by omega) (by rw[Int.toNat_natCast];have:=a5n hsl h3;simpa using this)
    refine J.q λ_=>?_;refine J.v (bv (x.1.getD i 0)) rfl rfl (λhg a w he hw=>?_) ?_
    ·exact i7 tk rfl rfl he rfl rfl rfl (hw.get (i:=3) rfl) (by rw[show 0+(i:Int).toNat*1=i from by omega,a5n hml h3,b4Q hxl hsl h3])
    refine J.q λ_=>?_;refine J.s1 3 (j8 (W.mix x.1 s.data (i+1))) ?_ ?_ ?_
    ·show 0+(i:Int).toNat*1<16;omega
    ·rw[show 0+(i:Int).toNat*1=i from by omega,b3P,<- b4P hxl hsl h3];exact b0S hml
    refine J.q λ_=>?_;refine J.nx (i+1) (by omega) (by omega) (λ_ s=>s)
   ·simp only[decide_eq_false_iff_not]at h2;obtain rfl:i=16:=by omega
    refine J.qp (b3i s.role s.lpn s.seq) [] λ_=>?_;refine J.q λ_=>?_;have e1:W.mix x.1 s.data 16=((l.take (k+1)).foldl W.over1 (zeros16,0)).1:=by rw[hnext];rfl
    have e2:IntKind.u64.wrap ((BitVec.ofInt IntKind.u64.bits x.2 ^^^ BitVec.ofInt IntKind.u64.bits (S.meta_ s.role s.lpn s.seq)).toNat:Int)=((l.take (k+1)).foldl W.over1 (zeros16,0)).2:=by rw[hnext];rfl
    rw[e1,e2];refine J.q λ_=>?_;refine J.n (k+1) (by omega) (by omega) [0,1,2,3]
 ·simp only[decide_eq_false_iff_not,Int.ofNat_lt]at h1;obtain rfl:k=l.length:=by omega
  rw[List.take_length];exact J.qx [1]
def d6 (l:List En):List Value:=l.flatMap enL
theorem b5n (e:En):(enL e).length=19:=rfl
theorem E7:∀(l:List En) (r:List Value) (k:Nat) (x:En),l[k]? =some x->((d6 l++r).drop (k*19)).take 19=enL x
 | [],_,_,_,h=>by simp at h
 | y::l,r,0,x,h=>by
  simp at h;subst h;rw[Nat.zero_mul,List.drop_zero];simp only[d6,List.flatMap_cons,List.append_assoc];exact List.take_left' rfl
 | y::l,r,k+1,x,h=>by
  have:=E7 l r k x (by simpa using h);rw[show(k+1)*19=19+k*19 from by omega,<- List.drop_drop];simp only[d6,List.flatMap_cons,List.append_assoc]at this ⊢;rw[List.drop_left' (b5n y)];exact this
theorem x9 (l:List Sh) (s:Sh):m7 (l++[s])=m7 l++shL s:=by simp[m7]
namespace W
def parS (b r m:Int) (l:List En):Sh:=
 let x:=over (l.map (sh b r m))
 ⟨x.1,(x.2.toNat/72057594037927936:Nat),(x.2.toNat/1099511627776 % 65536:Nat),(x.2.toNat % 1099511627776:Nat),2,b,r,m⟩
def parB (b r m:Int) (l:List En):Bool:=decide ((l.length:Int)=G.slots m)&& !l.isEmpty&&l.all (ok b r m)
def par (b r m:Int) (l:List En):Sh:=if parB b r m l then parS b r m l else Sh.zero
end W
theorem b6h (m x:Int):0<=W.ovM m x/\W.ovM m x<18446744073709551616:=by
 have:W.ovM m x=((BitVec.ofInt 64 m ^^^ BitVec.ofInt 64 x).toNat:Int) % 18446744073709551616:=by simp[W.ovM,IntKind.wrap,IntKind.bits,IntKind.signed]
 rw[this];omega
theorem a0L:∀(l:List Sh) (x:List UInt8×Int),0<=x.2/\x.2<18446744073709551616->∃k:Nat,(l.foldl W.over1 x).2=k/\k<18446744073709551616
 | [],x,h=>⟨x.2.toNat,by simp only[List.foldl_nil];omega,by omega⟩
 | s::l,x,_=>a0L l _ (b6h _ _)
theorem I1 (m:Int):0<=G.slots m/\G.slots m<=7:=by
 have:=L.count_le m;unfold G.slots;split<;>omega
theorem a6C (b r m:Int) (A:Atom) (a:Option Addr) (n cap:Nat) (l:List En) (hA:Rd A a 19 n (d6 l)) (hl:l.length=n) (hd:∀s∈l,s.data.length=16):FP 208 [iI b,iI r,iI m, .slice a n cap] [A]
  (λv As=>v= .tuple #[shV (W.par b r m l), .bool (W.parB b r m l)]/\As=[A]):=by
 refine FE [0,0,0,0] Tryz.func208 λX F hX=>?_;refine J.q λbb=>?_;refine J.cb (K6 m) [] ?_;refine cpq ⟨_,rfl,trivial,?_⟩;refine J.qd (λ_ h1=>?_) λ_ h1=>?_
 ·refine J.qr [1] λ_=>?_;have:W.parB b r m l=false:=by
   simp only[Bool.or_eq_true,bne_iff_ne,ne_eq,beq_iff_eq]at h1;unfold W.parB;rw[hl];rcases h1 with h1 | h1
   ·simp[h1]
   ·have:l=[]:=List.eq_nil_of_length_eq_zero (by omega);subst this;simp
  exact⟨by rw[W.par,this];rfl,rfl⟩
 simp only[Bool.or_eq_false_iff,bne_eq_false_iff_eq,beq_eq_false_iff_ne,ne_eq]at h1;have hn:n<=1000:=by have:=I1 m;omega
 refine J.turn1 [] rfl (As:=[c9 234 23 none 0 0 (m7 [])]) (λh s=>Sep.one ⟨rfl,rfl,rfl⟩) rfl ?_;refine J.q λ_=>?_;refine J.l (α:=(Nat×Option Nat×Nat)) (λz=>z.1<=n/\(l.take z.1).all (W.ok b r m)=true) (λz=>[si 31 z.1,si 30 n,sv 29 (.slice a n cap),sv 10 (slv z.2.1 z.1 z.2.2),⟨8,pp (bb 0),3, .tt⟩,si 0 b,si 1 r,si 2 m]) [3] (λz=>[c9 234 23 z.2.1 z.1 z.2.2 (m7 ((l.take z.1).map (W.sh b r m)))]) (λz=>n-z.1) ((0,none,0)) (⟨Nat.zero_le _,rfl⟩) λz hI=>?_;obtain⟨k,a',cap'⟩:=z;dsimp only at hI ⊢;refine J.qd (λ_ h2=>?_) λ_ h2=>?_
 ·simp only[decide_eq_true_eq,Int.ofNat_lt]at h2;obtain⟨e,he0⟩:∃e,l[k]? =some e:=⟨_,List.getElem?_eq_getElem (by omega)⟩;have hel:e.data.length=16:=hd e (List.mem_of_getElem? he0);refine J.know (p:=∃g o,a=some ⟨g,o,none⟩) (λh' s=>Rd.addr (hA _ (s.get (i:=1) rfl)) (by omega)) λhk=>?_;obtain⟨g,o,rfl⟩:=hk;refine J.q λ_=>?_;refine J.v (enV e) rfl rfl (λhg a w he hw=>?_) ?_
  ·exact Z9 tk rfl rfl he rfl rfl rfl (hA _ (hw.get (i:=1) rfl)) (by omega) (j:=k*19) (by omega) (by have:=E7 l [] k e he0;rwa [List.append_nil]at this) rfl
  refine J.qp (a6D b r m e hel) [] λ_=>?_;have htk:l.take (k+1)=l.take k++[e]:=by rw[List.take_add_one,he0];rfl
  refine J.qd (λ_ h3=>?_) λ_ h3=>?_
  ·simp only[Bool.not_eq_true']at h3;refine J.qr [1] λ_=>?_;have:W.parB b r m l=false:=by
    unfold W.parB;have:l.all (W.ok b r m)=false:=by
     rw[List.all_eq_false];exact⟨e,List.mem_of_getElem? he0,by simp[h3]⟩
    rw[this];simp
   exact⟨by rw[W.par,this];rfl,rfl⟩
  ·simp only[Bool.not_eq_false']at h3;rw[show W.own b r m e=W.sh b r m e from if_pos h3];refine J.q λ_=>?_;refine J.append hX tk 3 6 0 rfl rfl rfl rfl rfl rfl rfl rfl rfl rfl rfl rfl rfl rfl rfl rfl ?_ ?_ (λ_=>rfl) λa2 cap2=>⟨_,(congrArg (λz=>B1 _ 3 (c9 _ _ _ _ _ z)) (x9 _ (W.sh b r m e)).symm).trans rfl,trivial,?_⟩
   ·simp only[maxLen];omega
   ·omega
   rw[show(l.take k).map (W.sh b r m)++[W.sh b r m e]=(l.take (k+1)).map (W.sh b r m)from by rw[htk,List.map_append];rfl];refine J.q λ_=>?_;refine J.n ((k+1,a2,cap2)) (⟨by dsimp only;omega,by dsimp only;rw[htk,List.all_append,hI.2];simp[h3]⟩) (by dsimp only;omega) [0,1,2,3]
 ·simp only[decide_eq_false_iff_not,Int.ofNat_lt]at h2;obtain rfl:k=n:=by omega
  rw[show l.take k=l from List.take_of_length_le (by omega)]at*;refine J.qp (O4 a' k cap' (l.map (W.sh b r m)) (by rw[List.length_map,hl]) hn (λs hs=>by obtain⟨e,he,rfl⟩:=List.mem_map.1 hs;exact hd e he)) [3] λ_=>?_;obtain⟨mm,hm1,hm2⟩:=a0L (l.map (W.sh b r m)) (zeros16,0) ⟨by decide,by decide⟩;have hm1:(W.over (l.map (W.sh b r m))).2=(mm:Int):=hm1;rw[hm1];refine J.qp (b6w mm hm2) [] λ_=>?_;refine J.qr [1] λ_=>?_;have hB:W.parB b r m l=true:=by
   unfold W.parB;rw[hl,hI.2];have:l.isEmpty=false:=by
    cases l with
    | nil=>simp at hl;omega
    | cons x l=>rfl
   rw[this];simp[h1.1]
  refine⟨?_,rfl⟩;have hx:mm=(W.over (l.map (W.sh b r m))).2.toNat:=by rw[hm1];rfl
  rw[W.par,hB,if_pos rfl,W.parS,<- hx];rfl
theorem a4F {N:Nand} (hN:N.Ok) (x y z:Int):(N.readV x y z).length=32:=by
 unfold Nand.readV;split
 ·rfl
 ·rename_i h;simp only[ne_eq,Decidable.not_not]at h;obtain⟨_,_,hr⟩:=Nand.refuses_zero h;split
  ·rfl
  ·rename_i c hc;split
   ·rfl
   ·exact(hN.cells _ _ (by omega) (by omega)).2 c (List.mem_of_getElem? hc)
namespace M
def bad (s:Sh) (x y z:Int):Bool:=s.block !=y||s.row !=z|| !L.has s.mask x||(G.parity s.mask s.block s.row==x) !=(s.kind==2)
def look (N:Nand) (x y z:Int):Sh×Int:=
 let e:=N.readE x y z
 if e=0 then
  let p:=N.readV x y z
  if S.getE p≠0\/bad (S.getV p) x y z=true then(Sh.zero,3)else(S.getV p,1)
 else if e=5 then(Sh.zero,2)
 else if e=8\/e=9\/e=3\/e=12 then(Sh.zero,4)
 else(Sh.zero,3)
end M
theorem a1u (p:Nat) (N:Nand) (hN:N.Ok) (hR:N.Room) (x y z:Int):FP 179 [pp p, .agg #[iI x,iI y,iI z]] [i4 p N]
  (Ps (.tuple #[shV (M.look N x y z).1,iI (M.look N x y z).2]) [i4 p N]):=by
 refine FE [2,0] Tryz.func179 λX F hX=>?_;refine J.qp (a3n p N hN x y z) [1] λ_=>?_;refine J.qd (λ_ h1=>?_) λ_ h1=>?_
 ·simp only[beq_iff_eq]at h1;refine J.qp (b3j (N.readV x y z) (a4F hN x y z)) [] λ_=>?_;refine J.p (.of [0,5,8,13,16,21,28,33,26,36,40]) [10] [1,2,3,4,5] λ_=>?_;refine J.qp (L6 (S.getV (N.readV x y z)).mask (S.getV (N.readV x y z)).block (S.getV (N.readV x y z)).row) [] λ_=>?_;have hlk:M.look N x y z=if S.getE (N.readV x y z)≠0\/M.bad (S.getV (N.readV x y z)) x y z=true then(Sh.zero,3)else(S.getV (N.readV x y z),1):=by simp only[M.look];rw[if_pos h1]
  generalize hE:S.getE (N.readV x y z)=ge at hlk;generalize hS:S.getV (N.readV x y z)=s at hlk;refine J.q λ_=>?_;refine J.gcase hX rfl rfl rfl trivial (λhb=>?_) (λhb=>?_)
  ·have hb2:(ge !=0||s.block !=y||s.row !=z)=false:=by rw[Bool.not_eq_true']at hb;exact hb
   rw[hb2];refine J.qp (a4V s.mask x) [] λ_=>?_;have hcond:(false|| !L.has s.mask x||(G.parity s.mask s.block s.row==x) !=(s.kind==2))=true->ge≠0\/M.bad s x y z=true:=λh=>by
    simp only[Bool.or_eq_false_iff]at hb2;right;unfold M.bad;rw[hb2.1.2,hb2.2];exact h
   have hcond2:(false|| !L.has s.mask x||(G.parity s.mask s.block s.row==x) !=(s.kind==2))=false->¬(ge≠0\/M.bad s x y z=true):=λh=>by
    simp only[Bool.or_eq_false_iff]at hb2;have h0:ge=0:=by simpa using hb2.1.1
    have h2:M.bad s x y z=false:=by unfold M.bad;rw[hb2.1.2,hb2.2];exact h
    simp[h0,h2]
   refine J.qd (λ_ h5=>?_) λ_ h5=>?_
   ·refine J.qr [1] λ_=>?_;have hc:ge≠0\/M.bad s x y z=true:=hcond h5;rw[hlk,if_pos hc];exact⟨rfl,rfl⟩
   ·refine J.qr [1] λ_=>?_;have hc:¬(ge≠0\/M.bad s x y z=true):=hcond2 h5;rw[hlk,if_neg hc];exact⟨rfl,rfl⟩
  ·have hb2:(ge !=0||s.block !=y||s.row !=z)=true:=by rw[Bool.not_eq_false']at hb;exact hb
   rw[hb2];refine J.q λ_=>?_;refine J.v (.bool false) rfl rfl (λhg a w he hw=>by simp[G.on]at hg) ?_;have hc:ge≠0\/M.bad s x y z=true:=by
    simp only[Bool.or_eq_true,bne_iff_ne,ne_eq]at hb2;rcases hb2 with(h | h) | h
    ·exact .inl h
    ·right;simp[M.bad,h]
    ·right;simp[M.bad,h]
   rw[if_pos hc]at hlk;refine J.qd (λ_ h5=>?_) λ_ h5=>?_
   ·refine J.qr [1] λ_=>?_;rw[hlk];exact⟨rfl,rfl⟩
   ·simp at h5
 simp only[beq_eq_false_iff_ne,ne_eq]at h1;refine J.qd (λ_ h2=>?_) λ_ h2=>?_
 ·simp only[beq_iff_eq]at h2;refine J.qr [1] λ_=>?_;exact⟨by simp only[M.look];rw[if_neg h1,if_pos h2];rfl,rfl⟩
 simp only[beq_eq_false_iff_ne,ne_eq]at h2;have hgone:(N.readE x y z=8\/N.readE x y z=9\/N.readE x y z=3\/N.readE x y z=12)->M.look N x y z=(Sh.zero,4):=λh=>by simp only[M.look];rw[if_neg h1,if_neg h2,if_pos h]
 have hbad:¬(N.readE x y z=8\/N.readE x y z=9\/N.readE x y z=3\/N.readE x y z=12)->M.look N x y z=(Sh.zero,3):=λh=>by simp only[M.look];rw[if_neg h1,if_neg h2,if_neg h]
 refine J.qd (λ_ g8=>?_) λ_ g8=>?_
 ·rw[g8];refine J.qT λ_=>?_;refine J.qr [1] λ_=>?_;simp only[beq_iff_eq]at g8;rw[hgone (by simp[g8])];exact⟨rfl,rfl⟩
 refine J.qd (λ_ g9=>?_) λ_ g9=>?_
 ·rw[g9];refine J.qT λ_=>?_;refine J.qr [1] λ_=>?_;simp only[beq_iff_eq]at g9;rw[hgone (by simp[g9])];exact⟨rfl,rfl⟩
 refine J.qd (λ_ g3=>?_) λ_ g3=>?_
 ·rw[g3];refine J.qT λ_=>?_;refine J.qr [1] λ_=>?_;simp only[beq_iff_eq]at g3;rw[hgone (by simp[g3])];exact⟨rfl,rfl⟩
 refine J.qd (λ_ g12=>?_) λ_ g12=>?_
 ·refine J.qr [1] λ_=>?_;simp only[beq_iff_eq]at g12;rw[hgone (by simp[g12])];exact⟨rfl,rfl⟩
 refine J.qr [1] λ_=>?_;simp only[beq_eq_false_iff_ne,ne_eq]at g8 g9 g3 g12;rw[hbad (by simp[g8,g9,g3,g12])];exact⟨rfl,rfl⟩
def f8 (l:List Int):List Value:=l.map (.int .i64)
theorem L9 (l:List Int) (x:Int):f8 (l++[x])=f8 l++[iI x]:=by simp[f8]
namespace M
def rowN (N:Nand) (b r:Int) (k:Nat):List (Sh×Int):=(List.range k).map λd:Nat=>look N (d:Int) b r
end M
theorem a4C (N:Nand) (b r:Int) (k:Nat):M.rowN N b r (k+1)=M.rowN N b r k++[M.look N (k:Int) b r]:=by simp[M.rowN,List.range_succ]
theorem b5L (p:Nat) (N:Nand) (hN:N.Ok) (hR:N.Room) (b r:Int):FP 176 [pp p,iI b,iI r] [i4 p N]
  (λv As=>∃a1 c1 a2 c2,v= .tuple #[slv a1 N.dies c1,slv a2 N.dies c2]/\As=[i4 p N,c9 234 23 a1 N.dies c1 (m7 ((M.rowN N b r N.dies).map (·.1))),c9 3 1 a2 N.dies c2 (f8 ((M.rowN N b r N.dies).map (·.2)))]):=by
 have hbd:=hN.bd;refine FE [2,0,0] Tryz.func176 λX F hX=>?_;refine J.qp (R9 p N) [1] λ_=>?_;refine J.turn1 [] rfl (As:=[c9 234 23 none 0 0 (m7 []),c9 3 1 none 0 0 (f8 [])]) (λh s=>⟨λ_=>0,λi A hA=>by
  match i,hA with
  | 0,hA=>simp at hA;subst hA;exact⟨rfl,rfl,rfl⟩
  | 1,hA=>simp at hA;subst hA;exact⟨rfl,rfl,rfl⟩
  | k+2,hA=>simp at hA⟩) rfl ?_
 refine J.q λ_=>?_;refine J.l (α:=(Nat×(Option Nat×Nat)×(Option Nat×Nat))) (λz=>z.1<=N.dies) (λz=>[si 16 z.1,si 15 N.dies,sv 8 (slv z.2.1.1 z.1 z.2.1.2),sv 9 (slv z.2.2.1 z.1 z.2.2.2),⟨0,pp p,2, .tt⟩,si 1 b,si 2 r]) [2,3] (λz=>[c9 234 23 z.2.1.1 z.1 z.2.1.2 (m7 ((M.rowN N b r z.1).map (·.1))),c9 3 1 z.2.2.1 z.1 z.2.2.2 (f8 ((M.rowN N b r z.1).map (·.2)))]) (λz=>N.dies-z.1) ((0,(none,0),(none,0))) (Nat.zero_le _) λz hI=>?_;obtain⟨k,⟨a1,c1⟩,⟨a2,c2⟩⟩:=z;dsimp only at hI ⊢;refine J.qd (λ_ h1=>?_) λ_ h1=>?_
 ·simp only[decide_eq_true_eq,Int.ofNat_lt]at h1;refine J.qp (a1u p N hN hR k b r) [1] λ_=>?_;refine J.q λ_=>?_;refine J.append hX tk 2 5 0 rfl rfl rfl rfl rfl rfl rfl rfl rfl rfl rfl rfl rfl rfl rfl rfl ?_ ?_ (λ_=>rfl) λa3 c3=>⟨_,(congrArg (λz=>B1 _ 2 (c9 _ _ _ _ _ z)) (x9 _ (M.look N k b r).1).symm).trans rfl,trivial,?_⟩
  ·simp only[maxLen];omega
  ·omega
  refine J.q λ_=>?_;refine J.append hX tk 3 6 0 rfl rfl rfl rfl rfl rfl rfl rfl rfl rfl rfl rfl rfl rfl rfl rfl ?_ ?_ (λ_=>rfl) λa4 c4=>⟨_,(congrArg (λz=>B1 _ 3 (c9 _ _ _ _ _ z)) (L9 _ (M.look N k b r).2).symm).trans rfl,trivial,?_⟩
  ·simp only[maxLen];omega
  ·omega
  rw[show(M.rowN N b r k).map (·.1)++[(M.look N k b r).1]=(M.rowN N b r (k+1)).map (·.1)from by rw[a4C,List.map_append];rfl,show(M.rowN N b r k).map (·.2)++[(M.look N k b r).2]=(M.rowN N b r (k+1)).map (·.2)from by rw[a4C,List.map_append];rfl];refine J.q λ_=>?_;refine J.n ((k+1,(a3,c3),(a4,c4))) (by dsimp only;omega) (by dsimp only;omega) [0,1,2,3]
 ·simp only[decide_eq_false_iff_not,Int.ofNat_lt]at h1;obtain rfl:k=N.dies:=by omega
  refine J.qr [1,2,3] λ_=>?_;exact⟨a1,c1,a2,c2,rfl,rfl⟩
theorem b6I (x y:Int):FP 223 [iI x,iI y] [] (Ps (.bool (decide (x<y))) []):=by
 refine FE [] Tryz.func223 λX F hX=>?_;refine J.qp (a6n x) [] λ_=>?_;refine J.q λ_=>?_;refine J.gcase hX rfl rfl rfl trivial (λhb=>by cases hb) (λ_=>?_);refine J.q λ_=>?_;refine J.v (.bool false) rfl rfl (λhg a w he hw=>by simp[G.on]at hg) ?_;refine J.qr [] λ_=>?_;exact⟨by simp,rfl⟩
theorem r9 (l:List Int):(f8 l).length=l.length:=by simp[f8]
theorem I3 (l:List Int) (r:List Value) (k:Nat) (x:Int) (h:l[k]? =some x):(f8 l++r)[k]? =some (iI x):=by
 obtain⟨h1,h2⟩:=List.getElem?_eq_some_iff.1 h;rw[List.getElem?_append_left (by rw[r9];exact h1),f8,List.getElem?_map,h];rfl
theorem P9 (l:List Int) (r:List Value) (k:Nat) (x:Int) (h:k<l.length):(f8 l++r).set k (iI x)=f8 (l.set k x)++r:=by
 rw[List.set_append_left _ _ (by rw[r9];exact h),f8,f8,List.map_set]
def a2O (l:List Int) (j:Nat):List Int:=(l.set j (l.getD (j-1) 0)).set (j-1) (l.getD j 0)
def X4:Nat->List Int->List Int
 | 0,l=>l
 | j+1,l=>if l.getD (j+1) 0<l.getD j 0 then X4 j (a2O l (j+1))else l
def E9 (l:List Int):Nat->List Int
 | 0=>l
 | k+1=>X4 (k+1) (E9 l k)
def E8 (l:List Int):List Int:=E9 l (l.length-1)
theorem R5 (l:List Int) (j:Nat):(a2O l j).length=l.length:=by simp[a2O]
theorem a4y:∀(j:Nat) (l:List Int),(X4 j l).length=l.length
  | 0,l=>rfl
  | j + 1, l => by unfold X4; split
                   · rw[a4y j,R5]
                   · rfl
theorem P4 (l:List Int):∀k,(E9 l k).length=l.length
 | 0=>rfl
 | k+1=>by rw[E9,a4y,P4 l k]
theorem b5e (g n cap:Nat) (l:List Int) (hl:l.length=n) (hn:n<=4611686018427387904) (r:List Value):FP 217 [.slice (some ⟨g,0,none⟩) n cap,iI 0,iI n] [.pt g 3 (f8 l++r)]
  (Ps (.tuple #[]) [.pt g 3 (f8 (E8 l)++r)]):=by
 refine FE [2,0,0] Tryz.func217 λX F hX=>?_;refine J.q λ_=>?_;refine J.l (α:=Nat) (λi=>1<=i/\i<=max 1 n) (λi=>[si 6 i,⟨0, .slice (some ⟨g,0,none⟩) n cap,2, .tt⟩,si 1 0,si 2 n]) [1] (λi=>[.pt g 3 (f8 (E9 l (i-1))++r)]) (λi=>n-i) (1) (⟨by omega,by omega⟩) λi hI=>?_;refine J.qd (λ_ h1=>?_) λ_ h1=>?_
 ·simp only[decide_eq_true_eq,Int.ofNat_lt]at h1;refine J.q λ_=>?_;refine J.l (α:=(Nat×List Int)) (λy=>y.1<=i/\y.2.length=n/\X4 y.1 y.2=E9 l i) (λy=>[si 7 y.1,si 6 i,⟨0, .slice (some ⟨g,0,none⟩) n cap,2, .tt⟩,si 1 0,si 2 n]) [1] (λy=>[.pt g 3 (f8 y.2++r)]) (λy=>y.1) ((i,E9 l (i-1))) (⟨Nat.le_refl _,by rw[P4,hl],by obtain⟨k,rfl⟩:∃k,i=k+1:=⟨i-1,by omega⟩;rfl⟩) λy hI=>?_;obtain⟨j,m⟩:=y;dsimp only at hI ⊢;have hget:∀e,e<n->m[e]? =some (m.getD e 0):=λe he=>by rw[List.getD_eq_getElem?_getD,List.getElem?_eq_getElem (by omega),Option.getD_some]
  rcases Nat.eq_zero_or_pos j with h2 | h2
  ·subst h2;refine J.pn 4 (.of [0,4,8,12,16,20,24,29,32,36,40,44,49,54,56]) [] [1] λ_ _=>?_;rw[show decide (((0:Nat):Int)>0)=false from rfl];refine J.q λ_=>?_;refine J.vT (iI 0) rfl rfl (λhg a w he hC=>by simp[G.on]at hg) ?_;refine J.q λ_=>?_;refine J.vT (iI 0) rfl rfl (λhg a w he hC=>by simp[G.on]at hg) ?_;refine J.q λ_=>?_;refine J.gcase hX rfl rfl rfl ⟨rfl,trivial⟩ (λh=>by cases h) (λ_=>?_);refine J.slot (k:=29) (s':=⟨29, .bool false,0, .when false⟩) rfl rfl rfl ?_;refine J.qF λ_=>?_;have hm:m=E9 l (i+1-1):=hI.2.2;rw[hm];refine J.q λ_=>?_;refine J.n (i+1) (⟨by omega,by omega⟩) (by omega) [0,1]
  ·obtain⟨j,rfl⟩:∃k,j=k+1:=⟨j-1,by omega⟩;refine J.pn 4 (.of [0,4,8,12,16,20,24,29,32,36,40,44,49,54,56]) [] [1] λ_ _=>?_;rw[show decide (((j+1:Nat):Int)>0)=true from decide_eq_true (by omega)];refine J.q λ_=>?_;refine J.vT (iI (m.getD (j+1) 0)) rfl rfl (λhg a w he hC=>?_) ?_
   ·exact i7 tk rfl rfl he hg rfl rfl (hC rfl _ (i6 (i:=1) rfl)) (by rw[show 0+((j+1:Nat):Int).toNat*1=j+1 from by omega];exact I3 m r _ _ (hget _ (by omega)))
   refine J.q λ_=>?_;refine J.vT (iI (m.getD j 0)) rfl rfl (λhg a w he hC=>?_) ?_
   ·exact i7 tk rfl rfl he hg rfl rfl (hC rfl _ (i6 (i:=1) rfl)) (by rw[show 0+(((j+1:Nat):Int)-1).toNat*1=j from by omega];exact I3 m r _ _ (hget _ (by omega)))
   refine J.q λ_=>?_;refine J.call hX (by kernel_rfl) (b6I (m.getD (j+1) 0) (m.getD j 0)) [] 0 rfl rfl rfl rfl (by(repeat' (first | exact Conj.nil | refine Conj.cons ?_ ?_ | omega | exact hq0 | (simpa using hq0) | (exactλh=>h) | exact rfl | (intro hq;have hq0:=hq;try simp only[Bool.and_eq_true,Bool.or_eq_true,decide_eq_true_eq,Bool.not_eq_true',decide_eq_false_iff_not]at hq) | (simp;done) | (simp;omega) | decide))) rfl rfl (λ_=>rfl) ?_;refine cpq ⟨_,rfl,⟨rfl,trivial⟩,?_⟩;refine J.qd (λ_ h3=>?_) λ_ h3=>?_
   ·simp only[Bool.true_and,decide_eq_true_eq]at h3;refine J.pq (.take true 0 (.take true 1 (.take true 2 (.take true 3 (.take true 4 (.take true 5 (.take true 6 (.take true 7 (.take true 8 (.take true 10 (.take true 11 (.take true 12 (.alt false 9 ((.of [54,56,62,64,71])) (.alt false 13 ((.of [38,56,62,64,71])) .non)))))))))))))) [16,17] [] λ_ _=>?_;refine J.alts ?_ ?_
    ·refine J.v (iI (m.getD j 0)) rfl rfl (λhg a w he hs=>?_) ?_
     ·exact i7 tk rfl rfl he hg rfl rfl (hs.get (i:=1) rfl) (by rw[show 0+(((j+1:Nat):Int)-1).toNat*1=j from by omega];exact I3 m r _ _ (hget _ (by omega)))
     refine J.q λ_=>?_;refine J.v (iI (m.getD (j+1) 0)) rfl rfl (λhg a w he hs=>?_) ?_
     ·exact i7 tk rfl rfl he hg rfl rfl (hs.get (i:=1) rfl) (by rw[show 0+((j+1:Nat):Int).toNat*1=j+1 from by omega];exact I3 m r _ _ (hget _ (by omega)))
     refine J.q λ_=>?_;refine J.s1 1 (f8 (m.set (j+1) (m.getD j 0))++r) ?_ ?_ ?_
     ·rw[List.length_append,r9];show 0+((j+1:Nat):Int).toNat*1<_;omega
     ·rw[show 0+((j+1:Nat):Int).toNat*1=j+1 from by omega];exact P9 m r (j+1) _ (by omega)
     refine J.q λ_=>?_;refine J.s1 1 (f8 (a2O m (j+1))++r) ?_ ?_ ?_
     ·rw[List.length_append,r9,List.length_set];show 0+(((j+1:Nat):Int)-1).toNat*1<_;omega
     ·rw[show 0+(((j+1:Nat):Int)-1).toNat*1=j from by omega];exact P9 _ r j _ (by rw[List.length_set];omega)
     refine J.q λ_=>?_;rw[show((j+1:Nat):Int)-1=(j:Int)from by omega];refine J.q λ_=>?_;refine J.n ((j,a2O m (j+1))) (⟨by dsimp only;omega,by rw[R5];exact hI.2.1,by rw[<- hI.2.2];exact(if_pos h3).symm⟩) (by dsimp only;omega) [0,1]
    ·refine J.v (iI (m.getD (j+1) 0)) rfl rfl (λhg a w he hs=>?_) ?_
     ·exact i7 tk rfl rfl he hg rfl rfl (hs.get (i:=1) rfl) (by rw[show 0+((j+1:Nat):Int).toNat*1=j+1 from by omega];exact I3 m r _ _ (hget _ (by omega)))
     refine J.q λ_=>?_;refine J.v (iI (m.getD j 0)) rfl rfl (λhg a w he hs=>?_) ?_
     ·exact i7 tk rfl rfl he hg rfl rfl (hs.get (i:=1) rfl) (by rw[show 0+(((j+1:Nat):Int)-1).toNat*1=j from by omega];exact I3 m r _ _ (hget _ (by omega)))
     refine J.q λ_=>?_;refine J.s1 1 (f8 (m.set (j+1) (m.getD j 0))++r) ?_ ?_ ?_
     ·rw[List.length_append,r9];show 0+((j+1:Nat):Int).toNat*1<_;omega
     ·rw[show 0+((j+1:Nat):Int).toNat*1=j+1 from by omega];exact P9 m r (j+1) _ (by omega)
     refine J.q λ_=>?_;refine J.s1 1 (f8 (a2O m (j+1))++r) ?_ ?_ ?_
     ·rw[List.length_append,r9,List.length_set];show 0+(((j+1:Nat):Int)-1).toNat*1<_;omega
     ·rw[show 0+(((j+1:Nat):Int)-1).toNat*1=j from by omega];exact P9 _ r j _ (by rw[List.length_set];omega)
     refine J.q λ_=>?_;rw[show((j+1:Nat):Int)-1=(j:Int)from by omega];refine J.q λ_=>?_;refine J.n ((j,a2O m (j+1))) (⟨by dsimp only;omega,by rw[R5];exact hI.2.1,by rw[<- hI.2.2];exact(if_pos h3).symm⟩) (by dsimp only;omega) [0,1]
   ·simp only[Bool.true_and,decide_eq_false_iff_not]at h3;have hm:m=E9 l (i+1-1):=by rw[show i+1-1=i from rfl,<- hI.2.2];exact(if_neg h3).symm
    rw[hm];refine J.q λ_=>?_;refine J.n (i+1) (⟨by omega,by omega⟩) (by omega) [0,1]
 ·simp only[decide_eq_false_iff_not,Int.ofNat_lt]at h1;have hi:E9 l (i-1)=E8 l:=by
   rw[E8,hl,show i-1=n-1 from by omega]
  rw[hi];refine J.q λ_=>?_;refine J.f [1] ?_;exact⟨rfl,rfl⟩
theorem J9 (l:List Int):(E8 l).length=l.length:=P4 l _
theorem b4A (g n cap:Nat) (l:List Int) (hl:l.length=n) (hn:n<=12) (r:List Value) (k:Nat):FP 183 [.slice (some ⟨g,0,none⟩) n cap,iI 0,iI n,iI k] [.pt g 3 (f8 l++r)]
  (Ps (.tuple #[]) [.pt g 3 (f8 (E8 l)++r)]):=by
 refine FE [2,0,0,0] Tryz.func183 λX F hX=>?_;refine J.q λ_=>?_;refine J.l (α:=Nat) (λy=>True) (λy=>[⟨0, .slice (some ⟨g,0,none⟩) n cap,2, .tt⟩,si 1 0,si 2 n,si 3 k]) [1] (λy=>[.pt g 3 (f8 l++r)]) (λy=>0) (0) (trivial) λy hI=>?_;refine J.qd (λ_ h1=>?_) λ_ h1=>?_
 ·refine J.q λ_=>?_;rw[show(n:Int)-0=n from by omega]at*;refine J.qp (b5e g n cap l hl (by omega) r) [1] λ_=>?_;exact J.qx [1]
 ·simp only[decide_eq_false_iff_not]at h1;omega
theorem b2e (d:Value) (k:Nat):FP 183 [d,iI 0,iI 0,iI k] [] (Ps (.tuple #[]) []):=by
 have h0:FP 217 [d,iI 0,iI 0] [] (Ps (.tuple #[]) []):=by
  refine FE [0,0,0] Tryz.func217 λX F hX=>?_;refine J.q λ_=>?_;refine J.l (α:=Nat) (λy=>True) (λy=>[si 6 (0+1),sv 0 d,si 1 0,si 2 0]) [] (λy=>[]) (λy=>0) (0) (trivial) λy hI=>?_;refine J.qd (λ_ h1=>?_) λ_ h1=>?_
  ·simp at h1
  ·refine J.q λ_=>?_;refine J.f [] ?_;exact⟨rfl,rfl⟩
 refine FE [0,0,0,0] Tryz.func183 λX F hX=>?_;refine J.q λ_=>?_;refine J.l (α:=Nat) (λy=>True) (λy=>[sv 0 d,si 1 0,si 2 0,si 3 k]) [] (λy=>[]) (λy=>0) (0) (trivial) λy hI=>?_;refine J.qd (λ_ h1=>?_) λ_ h1=>?_
 ·refine J.qp (h0) [] λ_=>?_;exact J.qx []
 ·simp at h1
theorem a2V (a:Option Nat) (n cap:Nat) (l:List Int) (hl:l.length=n) (hn:n<=12):FP 124 [slv a n cap] [c9 3 1 a n cap (f8 l)]
  (Ps (.tuple #[]) [c9 3 1 a n cap (f8 (E8 l))]):=by
 refine FE [0] Tryz.func124 λX F hX=>?_;refine J.qc (b5O n hn) [] λ_=>?_;rintro v As ⟨⟨k,hk,rfl⟩,rfl⟩;refine⟨_,rfl,trivial,?_⟩;refine J.q λ_=>?_;cases a with
 | none=>
  refine J.know (λh' s=>(s.get (i:=1) rfl).2.1) λhn0=>?_;subst hn0;have:l=[]:=List.eq_nil_of_length_eq_zero hl;subst this;refine J.qp (b2e (slv none 0 cap) k) [] λ_=>?_;refine J.q λ_=>?_;refine J.f [1] ?_;exact⟨rfl,rfl⟩
 | some g=>
  refine J.openOwn 1 rfl rfl (λ_=>rfl) λr q1 q2 q3 q4=>?_;refine J.qp (b4A g n cap l hl hn r k) [1] λ_=>?_;refine J.closeOwn (e:=3) (size:=1) (n:=n) (cap:=cap) (xs:=f8 (E8 l)) 1 rfl rfl (by rw[r9,J9 l,hl,Nat.mul_one]) q2 q3 (by rw[List.length_append,r9,J9 l];rw[r9]at q4;exact q4) (by rw[List.take_left' (by rw[r9,J9 l,hl,Nat.mul_one])]) rfl ?_;refine J.q λ_=>?_;refine J.f [1] ?_;exact⟨rfl,rfl⟩
def o0 (p:Int):List Int->List Int
 | []=>[]
 | x::r=>if x=p then o0 x r else x::o0 x r
def n8:List Int->List Int
 | []=>[]
 | x::r=>x::o0 x r
def CpI (l m:List Int) (k j:Nat):Prop:=m.length=l.length/\1<=k/\k+1<=j/\j<=l.length/\m.drop (j-1)=l.drop (j-1)/\m.take k++o0 (l.getD (j-1) 0) (l.drop j)=n8 l
theorem b6E {l:List Int} {k:Nat} (hk:1<=k) (hl:k<l.length) (h:l.take k++o0 (l.getD (k-1) 0) (l.drop k)=n8 l) (hne:l.getD k 0≠l.getD (k-1) 0):l.take (k+1)++o0 (l.getD k 0) (l.drop (k+1))=n8 l:=by
 have hx:l.getD k 0=l[k]:=by rw[List.getD_eq_getElem?_getD,List.getElem?_eq_getElem hl,Option.getD_some]
 rw[List.drop_eq_getElem_cons hl,o0,if_neg (by rw[<- hx];exact hne)]at h;rw[<- h,hx,List.take_add_one,List.getElem?_eq_getElem hl];simp only[Option.toList_some,List.append_assoc,List.singleton_append]
theorem CpI.start {l:List Int} {k:Nat} (hk:1<=k) (hl:k<l.length) (h:l.take k++o0 (l.getD (k-1) 0) (l.drop k)=n8 l) (he:l.getD k 0=l.getD (k-1) 0):CpI l l k (k+1):=by
 have hx:l.getD k 0=l[k]:=by rw[List.getD_eq_getElem?_getD,List.getElem?_eq_getElem hl,Option.getD_some]
 refine⟨rfl,hk,by omega,by omega,rfl,?_⟩;rw[List.drop_eq_getElem_cons hl,o0,if_pos (by rw[<- hx];exact he)]at h;rw[Nat.add_sub_cancel,hx];exact h
theorem CpI.get {l m:List Int} {k j:Nat} (h:CpI l m k j) (i:Nat) (hi:j-1<=i):m.getD i 0=l.getD i 0:=by
 have h5:=h.2.2.2.2.1;have e:m[i]? =l[i]?:=by
  have:=congrArg (λz=>z[i-(j-1)]?) h5;simp only[List.getElem?_drop]at this
  rwa [show j-1+(i-(j-1))=i from by omega]at this
 rw[List.getD_eq_getElem?_getD,e,List.getD_eq_getElem?_getD]
theorem CpI.skip {l m:List Int} {k j:Nat} (h:CpI l m k j) (hj:j<l.length) (he:l.getD j 0=l.getD (j-1) 0):CpI l m k (j+1):=by
 obtain⟨h1,h2,h3,h4,h5,h6⟩:=h;have hx:l.getD j 0=l[j]:=by rw[List.getD_eq_getElem?_getD,List.getElem?_eq_getElem hj,Option.getD_some]
 refine⟨h1,h2,by omega,by omega,?_,?_⟩
 ·have:=congrArg (List.drop 1) h5;rw[List.drop_drop,List.drop_drop]at this
  rwa [show j-1+1=j+1-1 from by omega]at this
 ·rw[List.drop_eq_getElem_cons hj,o0,if_pos (by rw[<- hx];exact he)]at h6;rw[Nat.add_sub_cancel,hx];exact h6
theorem CpI.keep {l m:List Int} {k j:Nat} (h:CpI l m k j) (hj:j<l.length) (he:l.getD j 0≠l.getD (j-1) 0):CpI l (m.set k (l.getD j 0)) (k+1) (j+1):=by
 obtain⟨h1,h2,h3,h4,h5,h6⟩:=h;have hx:l.getD j 0=l[j]:=by rw[List.getD_eq_getElem?_getD,List.getElem?_eq_getElem hj,Option.getD_some]
 refine⟨by simp[h1],by omega,by omega,by omega,?_,?_⟩
 ·rw[List.drop_set_of_lt (by omega)];have:=congrArg (List.drop 1) h5;rw[List.drop_drop,List.drop_drop]at this
  rwa [show j-1+1=j+1-1 from by omega]at this
 ·rw[List.drop_eq_getElem_cons hj,o0,if_neg (by rw[<- hx];exact he)]at h6;rw[Nat.add_sub_cancel,hx,<- h6,List.take_set,List.take_add_one,List.getElem?_eq_getElem (by omega),List.set_append_right _ _ (by simp;omega)];simp[List.length_take,Nat.min_eq_left (show k<=m.length by omega)]
theorem a3N {l:List Int} (h:l.length<2):n8 l=l:=by
 match l,h with
 | [],_=>rfl
 | [x],_=>rfl
theorem a4t (a:Option Nat) (n cap:Nat) (l:List Int) (hl:l.length=n) (hn:n<=4611686018427387904):FP 125 [slv a n cap] [c9 3 1 a n cap (f8 l)]
  (λv As=>∃l',l'=n8 l/\v=slv a l'.length cap/\As=[c9 3 1 a l'.length cap (f8 l')]):=by
 refine FE [0] Tryz.func125 λX F hX=>?_;refine J.qd (λ_ h0=>?_) λ_ h0=>?_
 ·simp only[decide_eq_true_eq]at h0;refine J.qr [1] λ_=>?_;have hs:n8 l=l:=a3N (by omega);exact⟨l,hs.symm,by rw[hl],by rw[hl];rfl⟩
 simp only[decide_eq_false_iff_not]at h0;cases a with
 | none=>
  refine J.know (λh' s=>(s.get (i:=1) rfl).2.1) λhn0=>?_;omega
 | some g=>
  refine J.openOwn 1 rfl rfl (λ_=>rfl) λr q1 q2 q3 q4=>?_;refine J.q λ_=>?_;refine J.l (α:=Nat) (λk=>1<=k/\k<=n/\l.take k++o0 (l.getD (k-1) 0) (l.drop k)=n8 l) (λk=>[si 3 k,sv 0 (slv (some g) n cap)]) [] (λk=>[]) (λk=>n-k) (1) (⟨by omega,by omega,by cases l with | nil=>simp at hl;omega | cons x l=>rfl⟩) λk hI=>?_;have hget:∀e,e<n->(f8 l++r)[e]? =some (iI (l.getD e 0)):=λe he=>I3 l r e _ (by rw[List.getD_eq_getElem?_getD,List.getElem?_eq_getElem (by omega),Option.getD_some]);refine J.qd (λ_ h1=>?_) λ_ h1=>?_
  ·simp only[decide_eq_true_eq,Int.ofNat_lt]at h1;refine J.pq (.of [0,4,8,13,16,20,24,28,33,36]) [] [1] λ_ _=>?_;refine J.vT (iI (l.getD k 0)) rfl rfl (λhg a w he hC=>?_) ?_
   ·exact i7 tk rfl rfl he hg rfl rfl (hC rfl _ (i6 (i:=1) rfl)) (by rw[show 0+(k:Int).toNat*1=k from by omega];exact hget k h1)
   refine J.q λ_=>?_;refine J.vT (iI (l.getD (k-1) 0)) rfl rfl (λhg a w he hC=>?_) ?_
   ·exact i7 tk rfl rfl he hg rfl rfl (hC rfl _ (i6 (i:=1) rfl)) (by rw[show 0+((k:Int)-1).toNat*1=k-1 from by omega];exact hget (k-1) (by omega))
   refine J.qd (λ_ h2=>?_) λ_ h2=>?_
   ·simp only[beq_iff_eq]at h2;refine J.q λ_=>?_;rw[show(k:Int).toNat=k from Int.toNat_natCast k];refine J.q λ_=>?_;refine J.l (α:=(Nat×Nat×List Int)) (λz=>CpI l z.2.2 z.1 (k+z.2.1)/\1<=z.2.1) (λz=>[si 5 z.2.1,sv 4 (.slice (some ⟨g,0+k*1,none⟩) (n-k) (cap-k)),si 3 z.1,sv 0 (slv (some g) n cap)]) [1] (λz=>[.pt g 3 (f8 z.2.2++r)]) (λz=>n-z.2.1) ((k,1,l)) (⟨CpI.start hI.1 (by omega) hI.2.2 h2,Nat.le_refl _⟩) λz hI=>?_;obtain⟨kk,q,m⟩:=z;dsimp only at hI ⊢;obtain⟨hI,hq⟩:=hI;have hml:m.length=n:=hI.1.trans hl;have hc1:=hI.2.1;have hc2:=hI.2.2.1;have hc3:=hI.2.2.2.1;have hgm:∀e,e<n->(f8 m++r)[e]? =some (iI (m.getD e 0)):=λe he=>I3 m r e _ (by rw[List.getD_eq_getElem?_getD,List.getElem?_eq_getElem (by omega),Option.getD_some]);refine J.qd (λ_ h3=>?_) λ_ h3=>?_
    ·simp only[decide_eq_true_eq,Int.ofNat_lt]at h3;have hgj:=hI.get (k+q) (by omega);have hgj1:=hI.get (k+q-1) (by omega);have h3':k+q<n:=by omega
     refine J.pq (.of [0,4,8,13,16,20,24,28,33,36]) [] [1] λ_ _=>?_;refine J.vT (iI (m.getD (k+q) 0)) rfl rfl (λhg a w he hC=>?_) ?_
     ·exact i7 tk rfl rfl he hg rfl rfl (hC rfl _ (i6 (i:=1) rfl)) (by rw[show 0+k*1+(q:Int).toNat*1=k+q from by omega];exact hgm _ h3')
     refine J.q λ_=>?_;refine J.vT (iI (m.getD (k+q-1) 0)) rfl rfl (λhg a w he hC=>?_) ?_
     ·exact i7 tk rfl rfl he hg rfl rfl (hC rfl _ (i6 (i:=1) rfl)) (by rw[show 0+k*1+((q:Int)-1).toNat*1=k+q-1 from by omega];exact hgm _ (by omega))
     refine J.qd (λ_ h4=>?_) λ_ h4=>?_
     ·simp only[bne_iff_ne,ne_eq,hgj,hgj1]at h4;refine J.q λ_=>?_;refine J.v (iI (m.getD (k+q) 0)) rfl rfl (λhg a w he hw=>?_) ?_
      ·exact i7 tk rfl rfl he rfl rfl rfl (hw.get (i:=1) rfl) (by rw[show 0+k*1+(q:Int).toNat*1=k+q from by omega];exact hgm _ h3')
      refine J.q λ_=>?_;refine J.s1 1 (f8 (m.set kk (l.getD (k+q) 0))++r) ?_ ?_ ?_
      ·rw[List.length_append,r9];show 0+(kk:Int).toNat*1<_;omega
      ·rw[show 0+(kk:Int).toNat*1=kk from by omega,hgj];exact P9 m r kk _ (by omega)
      refine J.q λ_=>?_;refine J.n ((kk+1,q+1,m.set kk (l.getD (k+q) 0))) (⟨hI.keep (by omega) h4,by dsimp only;omega⟩) (by dsimp only;omega) [0,1]
     ·simp only[bne_eq_false_iff_eq,hgj,hgj1]at h4;refine J.q λ_=>?_;refine J.n ((kk,q+1,m)) (⟨hI.skip (by omega) h4,by dsimp only;omega⟩) (by dsimp only;omega) [0,1]
    ·simp only[decide_eq_false_iff_not,Int.ofNat_lt]at h3;have hj:k+q=n:=by omega
     have hfin:m.take kk=n8 l:=by
      have h6:=hI.2.2.2.2.2;rw[List.drop_of_length_le (by omega)]at h6;simpa[o0]using h6
     refine J.q λ_=>?_;refine J.clear hX tk 1 rfl rfl rfl rfl rfl rfl rfl rfl rfl rfl rfl ?_ (λ_=>rfl) (λ_=>rfl) λcs' z1 z2=>⟨trivial,?_⟩
     ·rw[List.length_append,r9];rw[r9]at q4;show 0+(kk:Int).toNat*1+(n-(kk:Int).toNat)*1<=_;omega
     have hklen:(n8 l).length=kk:=by rw[<- hfin,List.length_take];omega
     refine J.closeOwn (e:=3) (size:=1) (n:=kk) (cap:=cap) (xs:=f8 (n8 l)) 1 rfl rfl (by rw[r9,hklen,Nat.mul_one]) (by omega) q3 (by rw[z1,List.length_append,r9,hml];rw[r9,hl]at q4;exact q4) ?_ rfl ?_
     ·have z3:(0+(kk:Int).toNat*1)=kk:=by omega
      rw[z3]at z2;rw[Nat.mul_one,z2,List.take_append_of_le_length (by rw[r9];omega),<- hfin,f8,f8,List.map_take]
     refine J.qr [1] λ_=>?_;exact⟨_,rfl,by rw[hklen];rfl,by rw[hklen];rfl⟩
   ·simp only[beq_eq_false_iff_ne,ne_eq]at h2;refine J.q λ_=>?_;refine J.nx (k+1) (⟨by omega,by omega,by rw[Nat.add_sub_cancel];exact b6E hI.1 (by omega) hI.2.2 h2⟩) (by omega) (λ_ s=>s)
  ·simp only[decide_eq_false_iff_not,Int.ofNat_lt]at h1;obtain rfl:k=n:=by omega
   have hs:n8 l=l:=by
    have:=hI.2.2;rw[List.take_of_length_le (by omega),List.drop_of_length_le (by omega)]at this;simpa[o0]using this.symm
   refine J.closeOwn (e:=3) (size:=1) (n:=k) (cap:=cap) (xs:=f8 l) 1 rfl rfl q1 q2 q3 (by rw[List.length_append];exact q4) (by rw[List.take_left' q1]) rfl ?_;refine J.qr [1] λ_=>?_;exact⟨l,hs.symm,by rw[hl],by rw[hl];rfl⟩
def En.zero:En:=⟨0,0,0,zeros16⟩
def Sh.en (s:Sh):En:=⟨s.lpn,s.seq,s.role,s.data⟩
namespace W
def alien (p s:Sh):Bool:=s.kind !=1|| !S.may s||s.block !=p.block||s.row !=p.row||s.mask !=p.mask
def backS (p:Sh) (l:List Sh):En:=
 let x:=over (l++[p])
 ⟨(x.2.toNat/1099511627776 % 65536:Nat),(x.2.toNat % 1099511627776:Nat),(x.2.toNat/72057594037927936:Nat),x.1⟩
def backB (p:Sh) (l:List Sh):Bool:=p.kind==2&&S.may p&& !l.any (alien p)&&decide ((l.length:Int)=G.slots p.mask-1)&&ok p.block p.row p.mask (backS p l)
def back (p:Sh) (l:List Sh):En:=if backB p l then backS p l else En.zero
end W
structure Fd where
 slots:List Sh
 good:List Bool
 parity:Sh
 whole:Bool
structure Fnd where
 en:En
 block:Int
 row:Int
 slot:Int
 mask:Int
 whole:Bool
 mended:Bool
namespace M
def maskOf (x:Sh×Int):Option Int:=if x.2=1 then some x.1.mask else none
def masks (N:Nand) (b r:Int):List Int:=n8 (E8 ((rowN N b r N.dies).filterMap maskOf))
end M
namespace R
def job (b r m:Int) (l:List En):List (Int×Sh):=(List.range l.length).map (λk=>(G.die m b r (k:Nat),W.sh b r m (l.getD k En.zero)))++[(G.parity m b r,W.parS b r m l)]
def go (b r:Int):List (Int×Sh)->Nand->Int->Nand×Int×Int
 | [],N,f=>(N,f,if f=0 then 0 else 7)
 | (d,s)::q,N,f=>
  if N.progE d b r=0 then go b r q (N.progN d b r (C8 s)) f
  else if N.progE d b r=9 then(N.progN d b r (C8 s),f,9)
  else go b r q (N.progN d b r (C8 s)) (L.with_ f d)
def write (N:Nand) (b r m:Int) (l:List En):Nand×Int×Int:=if W.parB b r m l then go b r (job b r m l) N 0 else(N,0,1)
def one (N:Nand) (b r m d:Int):Sh×Bool:=((M.look N d b r).1,(M.look N d b r).2==1&&(M.look N d b r).1.mask==m)
def ones (N:Nand) (b r m:Int) (k:Nat):List (Sh×Bool):=(List.range k).map λi:Nat=>one N b r m (G.die m b r i)
def look (N:Nand) (b r m:Int):Fd:=⟨(ones N b r m (G.slots m).toNat).map (·.1),(ones N b r m (G.slots m).toNat).map (·.2),(one N b r m (G.parity m b r)).1,(one N b r m (G.parity m b r)).2⟩
def rest (f:Fd) (k:Nat):Bool:=(List.range f.slots.length).all λi=>i==k||f.good.getD i false
def mendB (f:Fd) (k:Nat):Bool:=rest f k&&f.whole&&W.backB f.parity (f.slots.eraseIdx k)
def mend (f:Fd) (k:Nat):En:=if rest f k&&f.whole then W.back f.parity (f.slots.eraseIdx k)else En.zero
def read (N:Nand) (b r s m:Int):En×Int:=
 if G.die m b r s<0\/y7 N.dies N.blocks N.pages 0 b r=false then(En.zero,3)
 else if N.off then(En.zero,9)
 else if(look N b r m).good.getD s.toNat false then(((look N b r m).slots.getD s.toNat Sh.zero).en,0)
 else if mendB (look N b r m) s.toNat then(mend (look N b r m) s.toNat,0)else(En.zero,10)
def enAt (f:Fd) (k:Nat):En:=if f.good.getD k false then(f.slots.getD k Sh.zero).en else mend f k
def okAt (f:Fd) (k:Nat):Bool:=f.good.getD k false||mendB f k
def fnd (f:Fd) (b r m:Int) (k:Nat):Option Fnd:=if okAt f k&&(enAt f k).role !=3 then some ⟨enAt f k,b,r,k,m,f.whole,!(f.good.getD k false)⟩else none
def allM (N:Nand) (b r m:Int):List Fnd:=(List.range (look N b r m).slots.length).filterMap (fnd (look N b r m) b r m)
def all (N:Nand) (b r:Int):List Fnd:=(M.masks N b r).flatMap (allM N b r)
end R
theorem D4 (N:Nand) (b r m:Int):(R.look N b r m).slots.length=(G.slots m).toNat/\(R.look N b r m).good.length=(G.slots m).toNat:=by simp[R.look,R.ones]
theorem a4O {N:Nand} (hN:N.Ok) (x y z:Int):(M.look N x y z).1.data.length=16:=by
 have hz:Sh.zero.data.length=16:=rfl;unfold M.look;dsimp only;split
 ·split
  ·exact hz
  ·exact b3m _ (a4F hN x y z)
 ·split
  ·exact hz
  ·split<;>exact hz
end Go.Proofs.YtnffkcabeecopaaGreat
namespace Go.Proofs.YtnffkcabeecopaaGreat
structure AtV where
 block:Int
 row:Int
 slot:Int
 mask:Int
 seq:Int
 role:Int
 deriving DecidableEq
def AtV.zero:AtV:=⟨0,0,0,0,0,0⟩
structure Tb where
 logical:Int
 at_:List (Int×AtV)
 cnt:List (Int×Int)
 next:Int
namespace Tb
def look {α:Type}:List (Int×α)->Int->Option α
 | [],_=>none
 | x::l,k=>if k=x.1 then some x.2 else look l k
def put1 {α:Type}:List (Int×α)->Int->α->List (Int×α)
 | [],k,v=>[(k,v)]
 | x::l,k,v=>if k=x.1 then(k,v)::l else x::put1 l k v
def new (n:Int):Tb:=⟨min (max n 0) 65536,[],[],1⟩
def count (t:Tb) (b:Int):Int:=(look t.cnt b).getD 0
def ok (t:Tb) (e:En):Bool:=!(decide (e.lpn<0)||decide (e.lpn>=t.logical)||(e.role !=1&&e.role !=2&&e.role !=4))
def elder (t:Tb) (e:En):Bool:=match look t.at_ e.lpn with
 | some a=>decide (e.seq<a.seq)
 | none=>false
def cnt1 (t:Tb) (e:En):List (Int×Int):=match look t.at_ e.lpn with
 | some a=>put1 t.cnt a.block (t.count a.block-1)
 | none=>t.cnt
def cnt2 (t:Tb) (e:En) (b:Int):List (Int×Int):=put1 (cnt1 t e) b ((look (cnt1 t e) b).getD 0+1)
def putB (t:Tb) (e:En):Bool:=ok t e&& !elder t e
def put (t:Tb) (e:En) (b r s m:Int):Tb:=if putB t e then⟨t.logical,put1 t.at_ e.lpn ⟨b,r,s,m,e.seq,e.role⟩,cnt2 t e b,if e.seq>=t.next then e.seq+1 else t.next⟩else t
def inB (t:Tb) (b:Int) (i:Int):Bool:=match look t.at_ i with
 | some a=>a.block==b
 | none=>false
def inK (t:Tb) (b:Int) (k:Nat):List Int:=((List.range k).filter λi:Nat=>inB t b i).map λi:Nat=>(i:Int)
theorem inK_succ (t:Tb) (b:Int) (k:Nat):inK t b (k+1)=if inB t b k then inK t b k++[(k:Int)]else inK t b k:=by
 unfold inK;rw[List.range_succ,List.filter_append,List.map_append];cases h:inB t b k<;>simp[h]
theorem inK_len (t:Tb) (b:Int) (k:Nat):(inK t b k).length<=k:=by
 unfold inK;rw[List.length_map];exact Nat.le_trans (List.length_filter_le _ _) (by rw[List.length_range];exact Nat.le_refl _)
def ins (t:Tb) (b:Int):List Int:=if t.count b=0 then[]else inK t b t.logical.toNat
theorem look_put1 {α:Type} (k:Int) (v:α) (j:Int):∀l:List (Int×α),look (put1 l k v) j=if j=k then some v else look l j
 | []=>by simp only[put1,look]
 | x::l=>by
  simp only[put1]
  by_cases h:k=x.1
  ·rw[if_pos h];simp only[look]
   by_cases h2:j=k
   ·rw[if_pos h2,if_pos h2]
   ·rw[if_neg h2,if_neg h2,if_neg (λe=>h2 (e.trans h.symm))]
  ·rw[if_neg h];simp only[look]
   by_cases h2:j=x.1
   ·rw[if_pos h2,if_pos h2,if_neg (λe=>h (e.symm.trans h2))]
   ·rw[if_neg h2,if_neg h2,look_put1 k v j l]
end Tb
namespace V
def behind (a b:Fnd):Bool:=if a.en.seq≠b.en.seq then decide (a.en.seq<b.en.seq)else b.whole&& !a.whole
def topsStep (out:List Fnd) (f:Fnd):List Fnd:=match out with
 | []=>[f]
 | h::t=>if behind h f then[f]else if behind f h then h::t else h::t++[f]
def tops (l:List Fnd):List Fnd:=l.foldl topsStep []
def all (N:Nand):List Fnd:=(List.range N.blocks).flatMap λb=>(List.range N.pages).flatMap λr=>R.all N (b:Nat) (r:Nat)
def of (l:List Fnd) (k:Int):List Fnd:=l.filter λf=>f.en.lpn==k
def holds (l:List Fnd):List Int:=(tops (l.filter λf=>f.whole)).map (·.block)
def blankRow (N:Nand) (b r:Int):Bool:=(M.rowN N b r N.dies).all λx=>x.2==2||x.2==4
def last (N:Nand) (f:Fnd):Bool:=((List.range N.pages).all λr:Nat=>decide ((r:Int)<=f.row)||blankRow N f.block r)&&(M.look N (G.parity f.mask f.block f.row) f.block f.row).2 !=4
end V
end Go.Proofs.YtnffkcabeecopaaGreat
namespace Go.Proofs.YtnffkcabeecopaaGreat
open Go Go.RowKit
def kI (k:Int):Value:=iI k
theorem a2s:KeyOk Tryz.prog 3 kI where
 now:=⟨_,Tryz.underlying3,λa b=> .inr rfl⟩
 eq:=λa b w=>by kernel_rfl
 check:=λe a w=>by kernel_rfl
 bits:=λa=>by simp[kI,Instr.sameBits]
theorem a1l:Tryz.prog.underlying 227=some (.map 3 161):=by kernel_rfl
theorem a2I:Tryz.prog.underlying 228=some (.map 3 3):=by kernel_rfl
def atL (a:AtV):List Value:=[iI a.block,iI a.row,iI a.slot,iI a.mask,iI a.seq,iI a.role]
def atV (a:AtV):Value:= .agg (atL a).toArray
def atM (l:List (Int×AtV)):List (Int×Value):=l.map λx=>(x.1,atV x.2)
def cnM (l:List (Int×Int)):List (Int×Value):=l.map λx=>(x.1,iI x.2)
def plL (b r s:Int):List Value:=[iI b,iI r,iI s]
def plV (b r s:Int):Value:= .agg (plL b r s).toArray
theorem a1J {α:Type} (f:α->Value) (k:Int):∀l:List (Int×α),y5 (l.map λx=>(x.1,f x.2)) k=(Tb.look l k).map f
 | []=>rfl
 | x::l=>by
  simp only[List.map_cons,y5,Tb.look];split
  ·rfl
  ·exact a1J f k l
theorem a3V {α:Type} (f:α->Value) (k:Int) (v:α):∀l:List (Int×α),M7 (l.map λx=>(x.1,f x.2)) k (f v)=(Tb.put1 l k v).map λx=>(x.1,f x.2)
 | []=>rfl
 | x::l=>by
  simp only[List.map_cons,M7,Tb.put1];split
  ·rfl
  ·rw[a3V f k v l];rfl
theorem a3Y (l:List (Int×AtV)) (k:Int):y5 (atM l) k=(Tb.look l k).map atV:=a1J atV k l
theorem a1i (l:List (Int×Int)) (k:Int):y5 (cnM l) k=(Tb.look l k).map (Value.int .i64):=a1J (Value.int .i64) k l
theorem a9A (l:List (Int×AtV)) (k:Int) (v:AtV):M7 (atM l) k (atV v)=atM (Tb.put1 l k v):=a3V atV k v l
theorem a6q (l:List (Int×Int)) (k v:Int):M7 (cnM l) k (Value.int .i64 v)=cnM (Tb.put1 l k v):=a3V (Value.int .i64) k v l
theorem a1x (o:Option AtV):(o.map atV).getD (atV AtV.zero)=atV (o.getD AtV.zero):=by cases o<;>rfl
theorem U7 (o:Option Int):(o.map (Value.int .i64)).getD (Value.int .i64 0)=Value.int .i64 (o.getD 0):=by cases o<;>rfl
theorem a3l {α β:Type} (o:Option α) (f:α->β):(o.map f).isSome=o.isSome:=by cases o<;>rfl
def TbP (q:Nat) (t:Tb) (x:Nat×Nat):List Atom:=[.pt q 230 [iI t.logical, .map (some x.1), .map (some x.2),iI t.next],B5 x.1 kI (atM t.at_),B5 x.2 kI (cnM t.cnt)]
def TbA (q:Nat) (t:Tb):Atom:=exA λx:Nat×Nat=>TbP q t x
theorem b1z (n:Int):(if(65536:Int)<if(0:Int)>n then 0 else n then 65536 else if(0:Int)>n then 0 else n)=min (max n 0) 65536:=by
 by_cases h:(0:Int)>n
 ·simp only[if_pos h];rw[if_neg (by omega)];omega
 ·simp only[if_neg h];split<;>omega
theorem a7X (n:Int):FP 118 [iI n] [] (λv As=>∃q,v=pp q/\As=[TbA q (Tb.new n)]):=by
 refine FE [0] Tryz.func118 λX F hX=>?_;refine J.q λbs=>?_;rw[b1z];refine J.turn1 [1] rfl (As:=[B5 (bs 0) kI (atM [])]) (λh s=>?_) rfl ?_
 ·refine⟨λ_=>0,λi A hA=>?_⟩;cases i with
  | zero=>simp at hA;subst hA;exact⟨#[],0,res_some.2 ⟨rfl,s.get (i:=0) rfl⟩,rfl,by simp,by simp⟩
  | succ k=>simp at hA
 refine J.turn1 [2] rfl (As:=[B5 (bs (0+1)) kI (cnM [])]) (λh s=>?_) rfl ?_
 ·refine⟨λ_=>0,λi A hA=>?_⟩;cases i with
  | zero=>simp at hA;subst hA;exact⟨#[],0,res_some.2 ⟨rfl,s.get (i:=0) rfl⟩,rfl,by simp,by simp⟩
  | succ k=>simp at hA
 refine J.close (f:=λx:Nat×Nat=>TbP (bs (0+1+1)) (Tb.new n) x) (bs 0,bs (0+1)) [3,1,2] rfl rfl rfl ?_;refine J.qr [3] λ_=>?_;exact⟨bs (0+1+1),rfl,rfl⟩
theorem a1n (q:Nat) (t:Tb) (k:Int):FP 94 [pp q,iI k] [TbA q t]
  (Ps (.tuple #[atV ((Tb.look t.at_ k).getD AtV.zero), .bool (Tb.look t.at_ k).isSome]) [TbA q t]):=by
 refine FE [2,0] Tryz.func94 λX F hX=>?_;refine J.o (α:=(Nat×Nat)) 1 λx=>?_;refine J.qF λ_=>?_;refine J.q λ_=>?_;refine J.v (.tuple #[atV ((Tb.look t.at_ k).getD AtV.zero), .bool (Tb.look t.at_ k).isSome]) rfl rfl (λhg a w he hs=>?_) ?_
 ·refine(l8 (key:=k) a2s a1l (z:=atV AtV.zero) (λw=>by kernel_rfl) rfl rfl rfl rfl he rfl rfl (hs.get (i:=2) rfl)).trans ?_;simp only[a3Y,a1x,a3l]
 refine J.cl (λx:Nat×Nat=>TbP q t x) x [1,2,3] ?_;exact J.qx [1]
theorem b1A (q:Nat) (t:Tb):FP 244 [pp q] [TbA q t]
  (Ps (iI t.at_.length) [TbA q t]):=by
 refine FE [2] Tryz.func244 λX F hX=>?_;refine J.o (α:=(Nat×Nat)) 1 λx=>?_;refine J.qF λ_=>?_;refine J.q λ_=>?_;refine J.v (iI t.at_.length) rfl rfl (λhg a w he hs=>?_) ?_
 ·refine(a1W a1l rfl rfl he rfl (hs.get (i:=2) rfl)).trans ?_;rw[atM,List.length_map]
 refine J.cl (λx:Nat×Nat=>TbP q t x) x [1,2,3] ?_;exact J.qx [1]
theorem b4h (q:Nat) (t:Tb):FP 279 [pp q] [TbA q t]
  (Ps (iI t.next) [TbA q t]):=by
 refine FE [2] Tryz.func279 λX F hX=>?_;refine J.o (α:=(Nat×Nat)) 1 λx=>?_;refine J.qF λ_=>?_;refine J.q λ_=>?_;refine J.cl (λx:Nat×Nat=>TbP q t x) x [1,2,3] ?_;exact J.qx [1]
theorem H1 (q:Nat) (t:Tb) (k:Int):FP 115 [pp q,iI k] [TbA q t]
  (Ps (iI (t.count k)) [TbA q t]):=by
 refine FE [2,0] Tryz.func115 λX F hX=>?_;refine J.o (α:=(Nat×Nat)) 1 λx=>?_;refine J.qF λ_=>?_;refine J.q λ_=>?_;refine J.v (iI (t.count k)) rfl rfl (λhg a w he hs=>?_) ?_
 ·refine(l8 (key:=k) a2s a2I (z:=iI 0) (λw=>by kernel_rfl) rfl rfl rfl rfl he rfl rfl (hs.get (i:=3) rfl)).trans ?_;simp only[a1i,U7];rfl
 refine J.cl (λx:Nat×Nat=>TbP q t x) x [1,2,3] ?_;exact J.qx [1]
theorem a2N (q:Nat) (t:Tb) (e:En) (b r s m:Int) (hs: -9223372036854775808<=e.seq/\e.seq<9223372036854775807) (hc:∀k,0<=Tb.count t k/\Tb.count t k<=1000000):FP 121 [pp q,enV e,plV b r s,iI m] [TbA q t]
  (Ps (.bool (Tb.putB t e)) [TbA q (Tb.put t e b r s m)]):=by
 refine FE [2,0,0,0] Tryz.func121 λX F hX=>?_;refine J.o (α:=(Nat×Nat)) 1 λx=>?_;refine J.pn 1 (.of [0,4,8,12,17,20,24,28,32,37,40,44,48,53,56,60,64,68,73,76,80,84,89,92,96,100,104,109,112,116,120]) [] [1,2,3,4,5] λ_ _=>?_;refine J.run hX tk 400 (λb16=>rfl) (λb16=>?_) (λb16=>?_)
 ·(repeat' (first | exact Conj.nil | refine Conj.cons ?_ ?_ | exact rfl | exact hq | (rw[hq];rfl) | (rw[(Bool.not_eq_true' _).mp hq]) | intro hq | omega | (simp;done) | (simp_all;done)))
 refine J.qd (λ_ h1=>?_) λ_ h1=>?_
 ·refine J.cl (λx:Nat×Nat=>TbP q t x) x [1,2,3] ?_;refine J.qr [1] λ_=>?_;have ho:Tb.ok t e=false:=by unfold Tb.ok;rw[Bool.not_eq_false'];exact h1
  have hp:Tb.putB t e=false:=by unfold Tb.putB;rw[ho];rfl
  exact⟨by rw[hp],by rw[Tb.put,if_neg (by rw[hp];simp)];rfl⟩
 have ho:Tb.ok t e=true:=by unfold Tb.ok;rw[Bool.not_eq_true'];exact h1
 refine J.pq (.of [0,4,8,13,16,21,25,28,32,36,42,46,48]) [12] [1,2,3,4,5] λ_ _=>?_;refine J.vT (.tuple #[atV ((Tb.look t.at_ e.lpn).getD AtV.zero), .bool (Tb.look t.at_ e.lpn).isSome]) rfl rfl (λ_ a w he hC=>?_) ?_
 ·refine(l8 (key:=e.lpn) a2s a1l (z:=atV AtV.zero) (λw=>by kernel_rfl) rfl rfl rfl rfl he rfl rfl (hC rfl _ (i6 (i:=2) rfl))).trans ?_;simp only[a3Y,a1x,a3l]
 rcases hlk:Tb.look t.at_ e.lpn with _ | a
 ·have hel:Tb.elder t e=false:=by simp[Tb.elder,hlk]
  have hp:Tb.putB t e=true:=by rw[Tb.putB,ho,hel];rfl
  have hc1:Tb.cnt1 t e=t.cnt:=by simp[Tb.cnt1,hlk]
  refine J.q λbw=>?_;refine J.cF ?_;refine J.qF λ_=>?_;refine J.pq (.of [0,4,8,13,16,21,25,28,35]) [8] [1,2,3,4,5,6] λ_ _=>?_;refine J.vT (iI ((Tb.look (t.cnt) b).getD 0)) rfl rfl (λ_ a w he hC=>?_) ?_
  ·refine(l8 (key:=b) a2s a2I (z:=iI 0) (λw=>by kernel_rfl) rfl rfl rfl rfl he rfl rfl (hC rfl _ (i6 (i:=3) rfl))).trans ?_;simp only[a1i,U7]
  have hb2: -1<=(Tb.look (t.cnt) b).getD 0/\(Tb.look (t.cnt) b).getD 0<=1000000:=⟨by have:=hc b;unfold Tb.count at this;omega,(hc b).2⟩;refine J.q λ_=>?_;refine J.mapUpdate hX a2s a2I b 3 rfl rfl rfl rfl rfl rfl rfl rfl rfl rfl rfl rfl (λ_=>rfl) (by rw[a6q];rfl) ⟨trivial,?_⟩;refine J.pq (.of [0,4,8,13,16,21,25,28,32,37,40,45,48,55]) [13] [1,2,3,4,5,6] λ_ _=>?_;refine J.mapUpdate hX a2s a1l e.lpn 2 rfl rfl rfl rfl rfl rfl rfl rfl rfl rfl rfl rfl (λ_=>rfl) (show _=some (_::_::B5 _ _ (M7 _ _ (atV ⟨b,r,s,m,e.seq,e.role⟩))::_)from rfl) ⟨trivial,?_⟩;rw[a9A];refine J.pq (.of [0,5,8,12,16,21,24]) [] [1,2,3,4,5,6] λ_ _=>?_;have hput:Tb.put t e b r s m=⟨t.logical,Tb.put1 t.at_ e.lpn ⟨b,r,s,m,e.seq,e.role⟩,Tb.put1 (t.cnt) b ((Tb.look (t.cnt) b).getD 0+1),if e.seq>=t.next then e.seq+1 else t.next⟩:=by
   rw[Tb.put,if_pos hp,Tb.cnt2,hc1]
  refine J.qd (λ_ h5=>?_) λ_ h5=>?_
  ·refine J.q λ_=>?_;refine J.cl (λx:Nat×Nat=>TbP q ⟨t.logical,Tb.put1 t.at_ e.lpn ⟨b,r,s,m,e.seq,e.role⟩,Tb.put1 (t.cnt) b ((Tb.look (t.cnt) b).getD 0+1),e.seq+1⟩ x) x [1,2,3] ?_;refine J.qr [1] λ_=>?_;exact⟨by rw[hp],by rw[hput,if_pos (by simpa only[decide_eq_true_eq,decide_eq_false_iff_not]using h5)];rfl⟩
  ·refine J.cl (λx:Nat×Nat=>TbP q ⟨t.logical,Tb.put1 t.at_ e.lpn ⟨b,r,s,m,e.seq,e.role⟩,Tb.put1 (t.cnt) b ((Tb.look (t.cnt) b).getD 0+1),t.next⟩ x) x [1,2,3] ?_;refine J.qr [1] λ_=>?_;exact⟨by rw[hp],by rw[hput,if_neg (by simpa only[decide_eq_true_eq,decide_eq_false_iff_not]using h5)];rfl⟩
 ·refine J.q λbw=>?_;refine J.cond rfl (λh2=>?_) (λh2=>?_)
  ·refine J.cl (λx:Nat×Nat=>TbP q t x) x [1,2,3] ?_;refine J.qr [1] λ_=>?_;have hel:Tb.elder t e=true:=by rw[Tb.elder,hlk];exact h2
   have hp:Tb.putB t e=false:=by rw[Tb.putB,ho,hel];rfl
   exact⟨by rw[hp],by rw[Tb.put,if_neg (by rw[hp];simp)];rfl⟩
  have hel:Tb.elder t e=false:=by rw[Tb.elder,hlk];exact h2
  have hp:Tb.putB t e=true:=by rw[Tb.putB,ho,hel];rfl
  have hc1:Tb.cnt1 t e=Tb.put1 t.cnt a.block (t.count a.block-1):=by simp[Tb.cnt1,hlk]
  have hb1:=hc a.block;refine J.qT λ_=>?_;refine J.pq (.of [0,4,8,13,16,20,25,29,32,39]) [9] [1,2,3,4,5,6] λ_ _=>?_;refine J.vT (iI (t.count a.block)) rfl rfl (λ_ a' w he hC=>?_) ?_
  ·refine(l8 (key:=a.block) a2s a2I (z:=iI 0) (λw=>by kernel_rfl) rfl rfl rfl rfl he rfl rfl (hC rfl _ (i6 (i:=3) rfl))).trans ?_;simp only[a1i,U7];rfl
  refine J.q λ_=>?_;refine J.mapUpdate hX a2s a2I a.block 3 rfl rfl rfl rfl rfl rfl rfl rfl rfl rfl rfl rfl (λ_=>rfl) (by rw[a6q];rfl) ⟨trivial,?_⟩;refine J.pq (.of [0,4,8,13,16,21,25,28,35]) [8] [1,2,3,4,5,6] λ_ _=>?_;refine J.vT (iI ((Tb.look (Tb.put1 t.cnt a.block (t.count a.block-1)) b).getD 0)) rfl rfl (λ_ a w he hC=>?_) ?_
  ·refine(l8 (key:=b) a2s a2I (z:=iI 0) (λw=>by kernel_rfl) rfl rfl rfl rfl he rfl rfl (hC rfl _ (i6 (i:=3) rfl))).trans ?_;simp only[a1i,U7]
  have hb2 : -1 ≤ (Tb.look (Tb.put1 t.cnt a.block (t.count a.block - 1)) b).getD 0 ∧ (Tb.look (Tb.put1 t.cnt a.block (t.count a.block - 1)) b).getD 0 ≤ 1000000 := by
     rw[Tb.look_put1];split
     ·show-1<=t.count a.block-1/\t.count a.block-1<=1000000;omega
     ·have:=hc b;unfold Tb.count at this;omega
  refine J.q λ_=>?_;refine J.mapUpdate hX a2s a2I b 3 rfl rfl rfl rfl rfl rfl rfl rfl rfl rfl rfl rfl (λ_=>rfl) (by rw[a6q];rfl) ⟨trivial,?_⟩;refine J.pq (.of [0,4,8,13,16,21,25,28,32,37,40,45,48,55]) [13] [1,2,3,4,5,6] λ_ _=>?_;refine J.mapUpdate hX a2s a1l e.lpn 2 rfl rfl rfl rfl rfl rfl rfl rfl rfl rfl rfl rfl (λ_=>rfl) (show _=some (_::_::B5 _ _ (M7 _ _ (atV ⟨b,r,s,m,e.seq,e.role⟩))::_)from rfl) ⟨trivial,?_⟩;rw[a9A];refine J.pq (.of [0,5,8,12,16,21,24]) [] [1,2,3,4,5,6] λ_ _=>?_;have hput:Tb.put t e b r s m=⟨t.logical,Tb.put1 t.at_ e.lpn ⟨b,r,s,m,e.seq,e.role⟩,Tb.put1 (Tb.put1 t.cnt a.block (t.count a.block-1)) b ((Tb.look (Tb.put1 t.cnt a.block (t.count a.block-1)) b).getD 0+1),if e.seq>=t.next then e.seq+1 else t.next⟩:=by
   rw[Tb.put,if_pos hp,Tb.cnt2,hc1]
  refine J.qd (λ_ h5=>?_) λ_ h5=>?_
  ·refine J.q λ_=>?_;refine J.cl (λx:Nat×Nat=>TbP q ⟨t.logical,Tb.put1 t.at_ e.lpn ⟨b,r,s,m,e.seq,e.role⟩,Tb.put1 (Tb.put1 t.cnt a.block (t.count a.block-1)) b ((Tb.look (Tb.put1 t.cnt a.block (t.count a.block-1)) b).getD 0+1),e.seq+1⟩ x) x [1,2,3] ?_;refine J.qr [1] λ_=>?_;exact⟨by rw[hp],by rw[hput,if_pos (by simpa only[decide_eq_true_eq,decide_eq_false_iff_not]using h5)];rfl⟩
  ·refine J.cl (λx:Nat×Nat=>TbP q ⟨t.logical,Tb.put1 t.at_ e.lpn ⟨b,r,s,m,e.seq,e.role⟩,Tb.put1 (Tb.put1 t.cnt a.block (t.count a.block-1)) b ((Tb.look (Tb.put1 t.cnt a.block (t.count a.block-1)) b).getD 0+1),t.next⟩ x) x [1,2,3] ?_;refine J.qr [1] λ_=>?_;exact⟨by rw[hp],by rw[hput,if_neg (by simpa only[decide_eq_true_eq,decide_eq_false_iff_not]using h5)];rfl⟩
theorem b1B (q:Nat) (t:Tb) (n:Nat) (hlog:t.logical=(n:Int)) (hn:n<=65536) (b:Int):FP 170 [pp q,iI b] [TbA q t]
  (λv As=>∃a c,v=slv a (t.ins b).length c/\As=[TbA q t,c9 3 1 a (t.ins b).length c (f8 (t.ins b))]):=by
 refine FE [2,0] Tryz.func170 λX F hX=>?_;refine J.qp (H1 q t b) [1] λ_=>?_;refine J.turn1 [] rfl (As:=[c9 3 1 none 0 0 (f8 [])]) (λh s=>Sep.one ⟨rfl,rfl,rfl⟩) rfl ?_;refine J.qd (λ_ h1=>?_) λ_ h1=>?_
 ·simp only[beq_iff_eq]at h1;refine J.qr [1,2] λ_=>?_;have:t.ins b=[]:=by unfold Tb.ins;rw[if_pos h1]
  rw[this];exact⟨none,0,rfl,rfl⟩
 simp only[beq_eq_false_iff_ne,ne_eq]at h1;have hins:t.ins b=t.inK b n:=by unfold Tb.ins;rw[if_neg h1,hlog];rfl
 refine J.o (α:=(Nat×Nat)) 1 λx=>?_;refine J.q λ_=>?_;refine J.l (α:=(Nat×Option Nat×Nat)) (λz=>z.1<=n) (λz=>[si 17 z.1,si 16 t.logical,sv 5 (slv z.2.1 (t.inK b z.1).length z.2.2),⟨0,pp q,2, .tt⟩,si 1 b]) [2] (λz=>[c9 3 1 z.2.1 (t.inK b z.1).length z.2.2 (f8 (t.inK b z.1))]) (λz=>n-z.1) ((0,none,0)) (Nat.zero_le _) λz hI=>?_;obtain⟨k,a1,c1⟩:=z;dsimp only at hI ⊢;refine J.qd (λ_ h2=>?_) λ_ h2=>?_
 ·simp only[decide_eq_true_eq]at h2;have hkl:=t.inK_len b k;refine J.q λ_=>?_;refine J.v (.tuple #[atV ((Tb.look t.at_ k).getD AtV.zero), .bool (Tb.look t.at_ k).isSome]) rfl rfl (λhg a w he hs=>?_) ?_
  ·refine(l8 (key:=(k:Int)) a2s a1l (z:=atV AtV.zero) (λw=>by kernel_rfl) rfl rfl rfl rfl he rfl rfl (hs.get (i:=3) rfl)).trans ?_;simp only[a3Y,a1x,a3l]
  have hin:((Tb.look t.at_ k).isSome&&(((Tb.look t.at_ k).getD AtV.zero).block==b))=t.inB b k:=by
   unfold Tb.inB;cases Tb.look t.at_ k<;>rfl
  refine J.qd (λ_ h3=>?_) λ_ h3=>?_
  ·have hs:t.inK b (k+1)=t.inK b k++[(k:Int)]:=by rw[Tb.inK_succ,if_pos (hin.symm.trans h3)]
   refine J.q λ_=>?_;refine J.append hX tk 2 6 0 rfl rfl rfl rfl rfl rfl rfl rfl rfl rfl rfl rfl rfl rfl rfl rfl ?_ ?_ (λ_=>rfl) λa3 c3=>⟨_,(congrArg (λz=>B1 _ 2 (c9 _ _ _ _ _ z)) (L9 _ (k:Int)).symm).trans rfl,trivial,?_⟩
   ·simp only[maxLen];omega
   ·omega
   rw[<- hs,show(t.inK b k).length+1=(t.inK b (k+1)).length from by rw[hs];simp];refine J.q λ_=>?_;refine J.n ((k+1,a3,c3)) (by dsimp only;omega) (by dsimp only;omega) [0,1,2,3,4]
  ·have hs:t.inK b (k+1)=t.inK b k:=by rw[Tb.inK_succ,if_neg (by rw[<- hin,h3];simp)]
   rw[<- hs];refine J.q λ_=>?_;refine J.n ((k+1,a1,c1)) (by dsimp only;omega) (by dsimp only;omega) [0,1,2,3,4]
 ·simp only[decide_eq_false_iff_not]at h2;obtain rfl:k=n:=by omega
  refine J.q λ_=>?_;refine J.cl (λx:Nat×Nat=>TbP q t x) x [1,3,4] ?_;refine J.qr [1,2] λ_=>?_;rw[hins];exact⟨a1,c1,rfl,rfl⟩
end Go.Proofs.YtnffkcabeecopaaGreat
