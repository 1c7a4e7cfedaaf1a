/- Helpers. No condition. -/
import Derived.Test.YtpakpgkdpofbhaaGreatC00
import Derived.Test.YtpakpgkdpofbhaaGreatC03
import Derived.Test.YtpakpgkdpofbhaaGreatC04
import Derived.Test.YtpakpgkdpofbhaaGreatC07
import Derived.Test.YtpakpgkdpofbhaaGreatC08
import Derived.Test.YtpakpgkdpofbhaaGreatC09
import Derived.Test.YtpakpgkdpofbhaaGreatC10
import Derived.Test.YtpakpgkdpofbhaaGreatC11
import Derived.Test.YtpakpgkdpofbhaaGreatC12
import Derived.Test.YtpakpgkdpofbhaaGreatC20
set_option maxRecDepth 20000
set_option linter.all false
namespace Go.Proofs.YtpakpgkdpofbhaaGreat
open Go Go.RowKit
theorem c2Y (m i:Int):L.at_ m i<8:=by
 unfold L.at_;split
 ·cases h:(L.dies m)[i.toNat]? with
  | none=>decide
  | some d=>
   have hm:=l7 h;unfold L.dies at hm;split at hm
   ·have:=List.mem_range.1 (List.mem_filter.1 hm).1;show((d:Nat):Int)<8;omega
   ·simp at hm
 ·decide
theorem c0r:∀m,m<256->∀p,p<8->(dI ((m:Nat):Int)).filter (λd=>d !=((p:Nat):Int))=dI (L.without ((m:Nat):Int) ((p:Nat):Int)):=by decide+kernel
def a4E (m b r:Int):List Int:=if 0<=G.parity m b r then(dI m).filter (λd=>d !=G.parity m b r)else[]
theorem c2c {m b r:Int} (h:0<=G.parity m b r):a4E m b r=dI (L.without m (G.parity m b r)):=by
 have h8:G.parity m b r<8:=by
  unfold G.parity at h ⊢;split
  ·decide
  ·exact c2Y _ _
 have hm:0<=m/\m<256:=by
  by_cases hh:0<=m/\m<256
  ·exact hh
  ·have hc:=L.count_no m hh;unfold G.parity at h;rw[d8 (by omega)]at h;omega
 unfold a4E;rw[d8 h];obtain⟨p,hp⟩:=g7 h;obtain⟨M,rfl⟩:=g7 hm.1;rw[hp];exact c0r M (by omega) p (by omega)
theorem b4b (m b r s:Int):(s<0\/((a4E m b r).length:Int)<=s->G.die m b r s= -1)/\(∀k:Nat,s=k->k<(a4E m b r).length->(a4E m b r)[k]? =some (G.die m b r s)):=by
 by_cases h:0<=G.parity m b r
 ·have he:=c2c h;have hd:G.die m b r s=L.at_ (L.without m (G.parity m b r)) s:=by unfold G.die;rw[d7 (by omega)]
  rw[he,hd,a5t];refine⟨λhs=>L.at_ge _ _ hs,λk hk hlt=>?_⟩;subst hk;exact c1E _ _ hlt
 ·have he:a4E m b r=[]:=by unfold a4E;rw[d7 h]
  have hd:G.die m b r s= -1:=by unfold G.die;rw[d8 (by omega)]
  rw[he,hd];exact⟨λ_=>rfl,λk _ hlt=>by simp at hlt⟩
theorem b6d (m b r:Int):FP 306 [iI m,iI b,iI r] [] (λv As=>∃a c,v=slv a (a4E m b r).length c/\As=[l5 3 1 a (a4E m b r).length c (n7 (a4E m b r))]):=by
 have hlen:=b3x m;refine FE [0,0,0] Tryz.func306 λX F hX=>?_;refine J.turn1 [] rfl (As:=[l5 3 1 none 0 0 (n7 (((dI m).take 0).filter λd=>d !=G.parity m b r))]) (λh s=>Sep.one ⟨rfl,rfl,rfl⟩) rfl ?_;refine J.qc (a5p m) [] λ_=>?_;rintro v As ⟨a,c,rfl,rfl⟩;refine⟨_,rfl,trivial,?_⟩;refine J.qp (a1D m b r) [] λ_=>?_;have hoth:a4E m b r=if 0<=G.parity m b r then(dI m).filter (λd=>d !=G.parity m b r)else[]:=rfl
 generalize hpp:G.parity m b r=p at hoth;refine J.q λ_=>?_;refine J.l (α:=(Nat×Option Nat×Nat)) (λz=>z.1<=(dI m).length/\(z.1=0\/0<=p)) (λz=>[si 10 z.1,si 9 p,sv 8 (slv a (dI m).length c),⟨7,slv z.2.1 (((dI m).take z.1).filter λd=>d !=p).length z.2.2,0, .tt⟩]) [1] (λz=>[l5 3 1 z.2.1 (((dI m).take z.1).filter λd=>d !=p).length z.2.2 (n7 (((dI m).take z.1).filter λd=>d !=p))]) (λz=>(dI m).length-z.1) ((0,none,0)) (⟨j4 _, .inl rfl⟩) λz hI=>?_;obtain⟨k,o,oc⟩:=z;dsimp only at hI ⊢;obtain⟨hk,hp⟩:=hI;have hfl:=B4 (λd=>d !=p) ((dI m).take k);have htl:((dI m).take k).length<=k:=by rw[l9];omega
 refine J.qd (λ_ h1=>?_) λ_ h1=>?_
 ·simp only[i9,c9,g6]at h1;obtain⟨h1,h2⟩:=h1;obtain⟨x,hx⟩:∃x,(dI m)[k]? =some x:=⟨_,d5 h1⟩;have hs:((dI m).take (k+1)).filter (λd=>d !=p)=((dI m).take k).filter (λd=>d !=p)++(if x !=p then[x]else[]):=by
   rw[s6,hx,y9,H2];congr 1;cases hxp:x !=p<;>simp[hxp]
  refine J.know (λh' s=>u7 (c:=(a,c)) (by omega) (s.get (i:=2) rfl)) λhg=>?_;obtain⟨g,rfl⟩:=hg;refine J.q λ_=>?_;refine J.v (iI x) rfl rfl (λhg a w he hs=>z7 tk rfl rfl he rfl rfl rfl (hs.get (i:=2) rfl) (by rw[show 0+(k:Int).toNat*1=k from by omega];exact L5 hx)) ?_;refine J.qd (λ_ h3=>?_) λ_ h3=>?_
  ·rw[d8 h3]at hs;have hl:(((dI m).take k).filter λd=>d !=p).length+1=(((dI m).take (k+1)).filter λd=>d !=p).length:=by rw[hs];simp
   refine J.q λ_=>?_;refine J.v (iI x) rfl rfl (λhg a w he hs=>z7 tk rfl rfl he rfl rfl rfl (hs.get (i:=2) rfl) (by rw[show 0+(k:Int).toNat*1=k from by omega];exact L5 hx)) ?_;refine J.q λ_=>?_;refine J.ap 1 3 0 ((U9 _ _).symm.trans (congrArg n7 hs.symm)) λa4 c4=>?_;rw[hl];refine J.q λ_=>?_;refine J.n ((k+1,a4,c4)) (⟨by dsimp only;omega, .inr h2⟩) (by dsimp only;omega) [0,1,2]
  ·rw[d7 (by rw[h3];simp),n9]at hs;rw[<- hs];refine J.q λ_=>?_;refine J.n ((k+1,o,oc)) (⟨by dsimp only;omega, .inr h2⟩) (by dsimp only;omega) [0,1,2]
 ·have he:((dI m).take k).filter (λd=>d !=p)=a4E m b r:=by
   rw[hoth]
   by_cases h0:0<=p
   ·rw[d8 h0];have hkl:(dI m).length<=k:=by
     rcases Q7 k (dI m).length with h | h
     ·rw[j3 (by omega),j3 (by omega)]at h1;cases h1
     ·exact h
    rw[m7 hkl]
   ·rw[d7 h0];obtain rfl:k=0:=by omega
    simp
  rw[he];refine J.qr [1] λ_=>?_;exact⟨o,oc,rfl,rfl⟩
theorem b3t (m b r s:Int):FP 276 [iI m,iI b,iI r,iI s] [] (λv As=>v=iI (G.die m b r s)/\As=[]):=by
 obtain⟨d1,d2⟩:=b4b m b r s;refine FE [0,0,0,0] Tryz.func276 λX F hX=>?_;refine J.qc (b6d m b r) [] λ_=>?_;rintro v As ⟨a,c,rfl,rfl⟩;refine⟨_,rfl,trivial,?_⟩;refine J.qd (λ_ h1=>?_) λ_ h1=>?_
 ·simp only[j8,c9]at h1;refine J.qr [] λ_=>?_;rw[d1 h1];exact⟨rfl,rfl⟩
 ·simp only[A5,c8]at h1;obtain⟨k,rfl⟩:=g7 (show 0<=s by omega);have hk:k<(a4E m b r).length:=by omega
  have hx:=d2 k rfl hk;refine J.know (λh' s=>u7 (c:=(a,c)) (by omega) (s.get (i:=1) rfl)) λhg=>?_;obtain⟨g,rfl⟩:=hg;refine J.q λ_=>?_;refine J.v (iI (G.die m b r k)) rfl rfl (λhg a w he hs=>z7 tk rfl rfl he rfl rfl rfl (hs.get (i:=1) rfl) (by rw[show 0+(k:Int).toNat*1=k from by omega];exact L5 hx)) ?_;exact J.qx []
theorem a6i (k:Nat) {a b c d:Nat} (hb:b<2^k) (hd:d<2^k):(2^k*a+b) ^^^ (2^k*c+d)=2^k*(a ^^^ c)+(b ^^^ d):=by
 apply Nat.eq_of_testBit_eq;intro j;have hbd:b ^^^ d<2^k:=J1 hb hd;rw[Nat.testBit_xor,Nat.testBit_two_pow_mul_add _ hb,Nat.testBit_two_pow_mul_add _ hd,Nat.testBit_two_pow_mul_add _ hbd];split
 ·rw[Nat.testBit_xor]
 ·rw[Nat.testBit_xor]
theorem b2D {a b:Nat} (ha:a<4611686018427387904) (hb:b<4611686018427387904):F9.xo a b=((a ^^^ b:Nat):Int):=by
 have h1:(BitVec.ofInt 64 (a:Int) ^^^ BitVec.ofInt 64 (b:Int)).toNat=a ^^^ b:=by
  rw[BitVec.toNat_xor,Y8,Y8,a0t,a0t,G9 (by omega),G9 (by omega)]
 have h2:a ^^^ b<4611686018427387904:=J1 (n:=62) ha hb;unfold F9.xo;show IntKind.i64.wrap ((BitVec.ofInt 64 (a:Int) ^^^ BitVec.ofInt 64 (b:Int)).toNat:Int)=_;rw[h1];simp[IntKind.wrap,IntKind.bits,IntKind.signed];omega
structure Num9 (s:Sh):Prop where
 role:0<=s.role/\s.role<=255
 lpn:0<=s.lpn/\s.lpn<=65535
 seq:0<=s.seq/\s.seq<=1099511627775
 data:s.data.length=16
theorem a7Q {s:Sh} (h:S.may s=true) (hd:s.data.length=16):Num9 s:=by
 simp only[S.may,S.numbers,S.inB,i9,c9]at h;exact⟨by omega,by omega,by omega,hd⟩
theorem b5l {a b:Sh} (ha:Num9 a) (hb:Num9 b):Num9 (F9.over a b)/\Xo.toX (F9.over a b)=Xo.op (Xo.toX a) (Xo.toX b):=by
 obtain⟨r1,e1⟩:=g7 ha.role.1;obtain⟨r2,e2⟩:=g7 hb.role.1;obtain⟨l1,e3⟩:=g7 ha.lpn.1;obtain⟨l2,e4⟩:=g7 hb.lpn.1;obtain⟨s1,e5⟩:=g7 ha.seq.1;obtain⟨s2,e6⟩:=g7 hb.seq.1;have i1:=ha.role;have i2:=hb.role;have i3:=ha.lpn;have i4:=hb.lpn;have i5:=ha.seq;have i6:=hb.seq;have x1:F9.xo a.role b.role=((r1 ^^^ r2:Nat):Int):=by rw[e1,e2];exact b2D (by omega) (by omega)
 have x2:F9.xo a.lpn b.lpn=((l1 ^^^ l2:Nat):Int):=by rw[e3,e4];exact b2D (by omega) (by omega)
 have x3:F9.xo a.seq b.seq=((s1 ^^^ s2:Nat):Int):=by rw[e5,e6];exact b2D (by omega) (by omega)
 have b1:r1 ^^^ r2<256:=J1 (n:=8) (by omega) (by omega);have b2:l1 ^^^ l2<65536:=J1 (n:=16) (by omega) (by omega);have b3:s1 ^^^ s2<1099511627776:=J1 (n:=40) (by omega) (by omega);refine⟨⟨?_,?_,?_,?_⟩,?_⟩
 ·show 0<=F9.xo a.role b.role/\F9.xo a.role b.role<=255;rw[x1];omega
 ·show 0<=F9.xo a.lpn b.lpn/\F9.xo a.lpn b.lpn<=65535;rw[x2];omega
 ·show 0<=F9.xo a.seq b.seq/\F9.xo a.seq b.seq<=1099511627775;rw[x3];omega
 ·exact a2Z ha.data hb.data 16 (by omega)
 ·unfold Xo.toX Xo.op;refine Prod.ext ?_ ?_
  ·exact Xo.mix_all ha.data hb.data
  ·show S.meta_ (F9.xo a.role b.role) (F9.xo a.lpn b.lpn) (F9.xo a.seq b.seq)=S.meta_ a.role a.lpn a.seq ^^^ S.meta_ b.role b.lpn b.seq;rw[x1,x2,x3,e1,e2,e3,e4,e5,e6];have hm:∀r l s:Nat,r<256->l<65536->s<1099511627776->S.meta_ (r:Nat) (l:Nat) (s:Nat)=2^40*(2^16*r+l)+s:=λr l s h1 h2 h3=>by
    unfold S.meta_;omega
   rw[hm _ _ _ b1 b2 b3,hm r1 l1 s1 (by omega) (by omega) (by omega),hm r2 l2 s2 (by omega) (by omega) (by omega),a6i 40 (by omega) (by omega),a6i 16 (by omega) (by omega)]
theorem a5X:∀(l:List Sh) (p:Sh),Num9 p->(∀s∈l,Num9 s)->Num9 (l.foldl F9.over p)/\Xo.toX (l.foldl F9.over p)=(l.map Xo.toX).foldl Xo.op (Xo.toX p)
 | [],p,h,_=>⟨h,rfl⟩
 | s::l,p,h,hl=>by
  obtain⟨h1,h2⟩:=b5l h (hl s (by simp));obtain⟨h3,h4⟩:=a5X l (F9.over p s) h1 (λt ht=>hl t (by simp[ht]));rw[C0,x5,C0,<- h2];exact⟨h3,h4⟩
theorem b5Y (p:Sh) (l:List Sh) (hp:Num9 p) (hl:∀s∈l,Num9 s):(l.foldl F9.over p).en=W.backS p l:=by
 obtain⟨h1,h2⟩:=a5X l p hp hl;generalize l.foldl F9.over p=S9 at h1 h2;have hd:∀s∈l++[p],s.data.length=16:=λs hs=>by
  rcases List.mem_append.1 hs with h | h
  ·exact(hl s h).data
  ·rw[List.mem_singleton.1 h];exact hp.data
 obtain⟨o1,o2⟩:=Xo.over_all (l++[p]) Xo.z hd Xo.z_ok (by decide);have hok:∀x∈l.map Xo.toX,Xo.Ok x:=λx hx=>by
  obtain⟨s,hs,rfl⟩:=List.mem_map.1 hx;exact(hl s hs).data
 have hpx:Xo.Ok (Xo.toX p):=hp.data;have e:((l++[p]).map Xo.toX).foldl Xo.op Xo.z=Xo.toX S9:=by
  rw[h2,x7,z8,Xo.fold_from (l.map Xo.toX) hok _ hpx];exact Xo.op_comm _ _
 rw[e]at o1 o2;obtain⟨m1,m2,m3⟩:=S.meta_back S9.role S9.lpn S9.seq h1.role h1.lpn h1.seq;have ho:W.over (l++[p])=((Xo.toX S9).1,(((Xo.toX S9).2:Nat):Int)):=o1;unfold W.backS;simp only[ho,l6];show(⟨S9.lpn,S9.seq,S9.role,S9.data⟩:En)=⟨((S.meta_ S9.role S9.lpn S9.seq/1099511627776 % 65536:Nat):Int),((S.meta_ S9.role S9.lpn S9.seq % 1099511627776:Nat):Int),((S.meta_ S9.role S9.lpn S9.seq/72057594037927936:Nat):Int),S9.data⟩;rw[m1,m2,m3]
theorem a4q (m:Int):FP 275 [iI m] [] (Ps (iI (G.slots m)) []):=by
 rw[<- b6Z m];exact b8Y m
def a5w (p:Sh) (n:Nat):Bool:=(!S.may p||p.kind !=2)||((n:Int) !=G.slots p.mask-1)
theorem b3E {p:Sh} {l:List Sh} {n:Nat} (hl:l.length=n) (h:a5w p n=true):W.backB p l=false:=by
 unfold W.backB;simp only[a5w,j8,i7,C2,D4]at h;rcases h with(h | h) | h
 ·rw[h];simp
 ·rw[beq_eq_false_iff_ne.2 h];simp
 ·rw[u9 (by rw[hl];exact h)];simp
def a8E (p o:Sh):Bool:=(((!S.may o||o.kind !=1)||o.block !=p.block)||o.row !=p.row)||o.mask !=p.mask
theorem a9T (p o:Sh):a8E p o=W.alien p o:=by
 unfold a8E W.alien;cases S.may o<;>cases o.kind !=1<;>simp
theorem b0Q {p:Sh} {l:List Sh} (h:W.backB p l=false):W.back p l=En.zero:=by unfold W.back;rw[h];rfl
theorem c0W (p:Sh) (hp:p.data.length=16) (a:Option Nat) (n c:Nat) (l:List Sh) (hl:l.length=n) (hd:∀s∈l,s.data.length=16):FP 307 [shV p,slv a n c] [l5 240 23 a n c (E8 l)]
  (Ps (.tuple #[enV (W.back p l), .bool (W.backB p l)]) [l5 240 23 a n c (E8 l)]):=by
 refine FE [0,0] Tryz.func307 λX F hX=>?_;refine J.q λbb=>?_;refine J.cb (b0F p hp) [] ?_;refine cpq ⟨_,rfl,trivial,?_⟩;have hG:=V6 p.mask;refine J.q λ_=>?_;refine J.join (α:=Unit) (λ_=>[sv 28 (.bool (a5w p n)),sv 1 (slv a n c),⟨2,pp (bb 0),3, .tt⟩,⟨4,pp (bb (0+1)),4, .tt⟩]) (λ_=>[.hp F,l5 240 23 a n c (E8 l), .pt (bb 0) 240 (shL p), .pt (bb (0+1)) 113 (enL En.zero)]) (λhj=>?_) (λ_=>?_)
 ·refine J.gcase hX rfl rfl rfl trivial (λhb=>?_) (λhb=>?_)
  ·have hb2:(!S.may p||p.kind !=2)=false:=by rwa [i7]at hb
   have hC:a5w p n=(false||((n:Int) !=G.slots p.mask-1)):=by unfold a5w;rw[hb2]
   rw[hb2];refine J.qp (a4q p.mask) [] λ_=>?_;refine J.q λ_=>?_;exact J.goto [0,1,2,3] (hj ()) ⟨congrArg (λb=>some (Value.bool b)) hC.symm,rfl,rfl,rfl,trivial⟩ rfl rfl
  ·have hb2:(!S.may p||p.kind !=2)=true:=by rwa [p9]at hb
   have hC:a5w p n=true:=by unfold a5w;rw[hb2];rfl
   rw[hb2];refine J.q λb5=>?_;refine J.v (iI 0) rfl rfl (λhg a w he hw=>by simp[G.on]at hg) ?_;refine J.q λ_=>?_;exact J.goto [0,1,2,3] (hj ()) ⟨congrArg (λb=>some (Value.bool b)) (show _=a5w p n from by rw[hC];rfl),rfl,rfl,rfl,trivial⟩ rfl rfl
 refine J.qd (λ_ h1=>?_) λ_ h1=>?_
 ·have hB:=b3E hl h1;refine J.qr [1] λ_=>?_;rw[b0Q hB,hB];exact⟨rfl,rfl⟩
 simp only[a5w,A5,p9,p6]at h1;obtain⟨⟨hmp,hkp⟩,hln⟩:=h1;refine J.q λb5=>?_;refine J.l (α:=Nat) (λk=>k<=n/\∀o∈l.take k,a8E p o=false) (λk=>[si 7 k,⟨6,pp (b5 0),5, .tt⟩,sv 1 (slv a n c),⟨2,pp (bb 0),3, .tt⟩,⟨4,pp (bb (0+1)),4, .tt⟩]) [4] (λk=>[.pt (b5 0) 240 (shL ((l.take k).foldl F9.over p))]) (λk=>n-k) (0) (⟨j4 _,by simp⟩) λk hI=>?_;obtain⟨hk,hal⟩:=hI;refine J.qd (λ_ h2=>?_) λ_ h2=>?_
 ·simp only[c9,g6]at h2;obtain⟨o,ho⟩:∃o,l[k]? =some o:=⟨_,d5 (by omega)⟩;have hod:=hd o (l7 ho);refine J.know (λh' s=>u7 (c:=(a,c)) (by omega) (s.get (i:=1) rfl)) λhg=>?_;obtain⟨g,rfl⟩:=hg;have hts:l.take (k+1)=l.take k++[o]:=by rw[s6,ho];rfl
  have hfold:(l.take (k+1)).foldl F9.over p=F9.over ((l.take k).foldl F9.over p) o:=by rw[hts,z8];rfl
  have hfl:((l.take k).foldl F9.over p).data.length=16:=by
   have:∀(l:List Sh) (q:Sh),(∀s∈l,s.data.length=16)->q.data.length=16->(l.foldl F9.over q).data.length=16:=by
    intro l
    induction l with
    | nil=>intro q _ h;exact h
    | cons x l ih=>intro q hd h;exact ih _ (λt ht=>hd t (by simp[ht])) (a2Z h (hd x (by simp)) 16 (by omega))
   exact this _ _ (λs hs=>hd s (H9 hs)) hp
  generalize(l.take k).foldl F9.over p=q at hfold hfl;refine J.q λ_=>?_;refine J.v (shV o) rfl rfl (λhg a w he hw=>?_) ?_
  ·exact E6 tk rfl rfl he rfl rfl rfl (hw.get (i:=1) rfl) (by rw[show 0+(k:Int).toNat*23=k*23 from by omega];exact a1V ho) rfl
  refine J.qp (b0F o hod) [] λ_=>?_;refine J.qd (λ_ h3=>?_) λ_ h3=>?_
  ·have hB:W.backB p l=false:=by
    have ha:W.alien p o=true:=by rw[<- a9T];exact h3
    unfold W.backB;rw[List.any_eq_true.2 ⟨o,l7 ho,ha⟩];simp
   refine J.qr [1] λ_=>?_;rw[b0Q hB,hB];exact⟨rfl,rfl⟩
  ·have h3:a8E p o=false:=h3;refine J.qp (c0V q o hfl hod) [] λ_=>?_;rw[<- hfold];refine J.q λ_=>?_;refine J.nS (k+1) (⟨by omega,λt ht=>by
    rw[hts]at ht;rcases List.mem_append.1 ht with h | h
    ·exact hal t h
    ·rw[List.mem_singleton.1 h];exact h3⟩) (by omega) [0,1,2,3,4] rfl rfl
 simp only[c8,g6]at h2;have htk:l.take k=l:=m7 (by omega);rw[htk]at hal ⊢;have hnum:∀s∈l,Num9 s:=λs hs=>a7Q (by
  have h:=hal s hs;simp only[a8E,A5,p9]at h;exact h.1.1.1.1) (hd s hs)
 have hq:=b5Y p l (a7Q hmp hp) hnum;have hqd:=(a5X l p (a7Q hmp hp) hnum).1.data;have hany:l.any (W.alien p)=false:=by
  rw[a2T];intro o ho;rw[<- a9T,hal o ho];decide
 have hB:W.backB p l=W.ok p.block p.row p.mask (l.foldl F9.over p).en:=by
  unfold W.backB;rw[hkp,hmp,hany,j3 (by rw[hl];exact hln),hq];simp
 generalize l.foldl F9.over p=q at hq hqd hB;refine J.qp (c2B p.block p.row p.mask q.en hqd) [] λ_=>?_;rw[<- hB];refine J.qd (λ_ h4=>?_) λ_ h4=>?_
 ·have h4:W.backB p l=false:=by simpa using h4
  refine J.qr [1] λ_=>?_;rw[b0Q h4,h4];exact⟨rfl,rfl⟩
 ·have h4:W.backB p l=true:=by simpa using h4
  have hbk:W.back p l=q.en:=by unfold W.back;rw[d8 h4,hq]
  refine J.qr [1] λ_=>?_;rw[hbk,h4];exact⟨rfl,rfl⟩
theorem a5U (N:Nand) (b r m:Int) {i:Nat} (h:i<(G.slots m).toNat):(R.look N b r m).slots[i]? =some (R.one N b r m (G.die m b r i)).1/\(R.look N b r m).good.getD i false=(R.one N b r m (G.die m b r i)).2:=by
 unfold R.look R.ones;simp[d6,h]
theorem b6c (p:Nat) (N:Nand) (hN:N.Ok) (hR:N.Room) (b r m:Int) (k:Nat) (hk:k<1000000):FP 278 [pp p,iI b,iI r,iI m,iI k] [x6 p N]
  (Ps (.tuple #[enV (R.mend (R.look N b r m) k), .bool (R.mendB (R.look N b r m) k)]) [x6 p N]):=by
 have hG:=V6 m;obtain⟨hsl,hgl⟩:=X8 N b r m;obtain⟨hsd,hpd⟩:=a1B hN b r m;have hslot:=λi (h:i<(G.slots m).toNat)=>a5U N b r m h;have hwh:(R.one N b r m (G.parity m b r))=((R.look N b r m).parity,(R.look N b r m).whole):=rfl;obtain⟨f,hf⟩:∃f,R.look N b r m=f:=⟨_,rfl⟩;rw[hf]at hsl hgl hsd hpd hslot hwh ⊢;obtain⟨n,hn⟩:=g7 hG.1;have hnt:(G.slots m).toNat=n:=by omega
 rw[hnt]at hsl hgl hslot;refine FE [2,0,0,0,0] Tryz.func278 λX F hX=>?_;refine J.turn1 [] rfl (As:=[l5 240 23 none 0 0 (E8 (a0x f.slots k 0))]) (λh s=>Sep.one ⟨rfl,rfl,rfl⟩) rfl ?_;refine J.q λbb=>?_;refine J.cb (a1D m b r) [] ?_;refine cpq ⟨_,rfl,trivial,?_⟩;refine J.qp (a8k p N hN hR b r m (G.parity m b r)) [1] λ_=>?_;rw[hwh];refine J.q λb12=>?_;refine J.l (α:=(Nat×Bool×Option Nat×Nat)) (λz=>z.1<=n/\z.2.1=(f.whole&&(List.range z.1).all λi=>i==k||f.good.getD i false)) (λz=>[si 15 z.1,sv 14 (slv z.2.2.1 (a0x f.slots k z.1).length z.2.2.2),sv 13 (.bool z.2.1),⟨12,pp (b12 0),5, .tt⟩,⟨10,pp (bb 0),4, .tt⟩,sv 11 (.bool false),⟨0,pp p,2, .tt⟩,si 1 b,si 2 r,si 3 m,si 4 k]) [2] (λz=>[l5 240 23 z.2.2.1 (a0x f.slots k z.1).length z.2.2.2 (E8 (a0x f.slots k z.1))]) (λz=>n-z.1) ((0,f.whole,none,0)) (⟨j4 _,by simp⟩) λz hI=>?_;obtain⟨i,ob,a,c⟩:=z;dsimp only at hI ⊢;obtain⟨hi,hob⟩:=hI;have hol:=b1F f.slots k i;refine J.qp (a4q m) [] λ_=>?_;rw[hn];refine J.qd (λ_ h1=>?_) λ_ h1=>?_
 ·simp only[c9,g6]at h1;obtain⟨q1,q2⟩:=hslot i h1;refine J.qp (b3t m b r i) [] λ_=>?_;refine J.qp (a8k p N hN hR b r m (G.die m b r i)) [1] λ_=>?_;generalize R.one N b r m (G.die m b r i)=x at q1 q2;obtain⟨s,g⟩:=x;refine J.q λb12=>?_;refine J.cond rfl (λh2=>?_) (λh2=>?_)
  ·simp only[C2,D4,a0C]at h2;have hsn:=b4c f.slots k i s q1 h2;have hob2:(ob&&g)=(f.whole&&(List.range (i+1)).all λi=>i==k||f.good.getD i false):=by
    rw[t6,List.all_append,<- Bool.and_assoc,<- hob];congr 1;rw[List.all_cons,List.all_nil,a7e,beq_eq_false_iff_ne.2 h2,D1,q2]
   refine J.q λ_=>?_;refine J.ap 2 6 0 ((M5 _ _).symm.trans (congrArg E8 hsn.symm)) λa4 c4=>?_;rw[show(a0x f.slots k i).length+1=(a0x f.slots k (i+1)).length from by rw[hsn];simp];refine J.q λ_=>?_;refine J.n ((i+1,ob&&g,a4,c4)) (⟨by dsimp only;omega,hob2⟩) (by dsimp only;omega) [0,1,2,3,4]
  ·simp only[p6,a0C]at h2;have hsn:a0x f.slots k (i+1)=a0x f.slots k i:=by rw[<- h2];exact b4d f.slots i (by omega)
   have hob2:ob=(f.whole&&(List.range (i+1)).all λi=>i==k||f.good.getD i false):=by
    rw[t6,List.all_append,<- Bool.and_assoc,<- hob,List.all_cons,List.all_nil,a7e,h2];simp
   rw[<- hsn];refine J.q λ_=>?_;refine J.n ((i+1,ob,a,c)) (⟨by dsimp only;omega,hob2⟩) (by dsimp only;omega) [0,1,2,3,4]
 simp only[c8,g6]at h1;obtain rfl:i=n:=by omega
 have hoe:a0x f.slots k i=f.slots.eraseIdx k:=by unfold a0x;rw[m7 (by omega)]
 have hrest:ob=(R.rest f k&&f.whole):=by rw[hob,Bool.and_comm];unfold R.rest;rw[hsl]
 rw[hoe];refine J.qd (λ_ h3=>?_) λ_ h3=>?_
 ·have h3:ob=false:=by simpa using h3
  rw[h3]at hrest;have m1:R.mendB f k=false:=by unfold R.mendB;rw[<- hrest];rfl
  have m2:R.mend f k=En.zero:=by unfold R.mend;rw[<- hrest];rfl
  refine J.qr [1] λ_=>?_;rw[m1,m2];exact⟨rfl,rfl⟩
 ·have h3:ob=true:=by simpa using h3
  rw[h3]at hrest;have m1:R.mendB f k=W.backB f.parity (f.slots.eraseIdx k):=by unfold R.mendB;rw[<- hrest];rfl
  have m2:R.mend f k=W.back f.parity (f.slots.eraseIdx k):=by unfold R.mend;rw[<- hrest];rfl
  refine J.qp (c0W f.parity hpd a (f.slots.eraseIdx k).length c (f.slots.eraseIdx k) rfl (λs hs=>hsd s (a2b hs))) [2] λ_=>?_;rw[<- m1,<- m2];exact J.qx [1]
theorem b4D {p:Nat->Bool} {i:Nat} (hp:p i=true):∀n,(∀j,j<n->j≠i->p j=false)->(List.range n).countP p=if i<n then 1 else 0
 | 0,_=>rfl
 | n+1,h=>by
  rw[t6,a2w,b4D hp n (λj hj=>h j (by omega)),List.countP_singleton]
  by_cases e:n=i
  ·subst e;rw[hp,d7 (Nat.lt_irrefl n),d8 rfl,d8 (a3z n)]
  ·rw[h n (by omega) e,d7 s9,L8]
   by_cases h2:i<n
   ·rw[d8 h2,d8 (by omega)]
   ·rw[d7 h2,d7 (by omega)]
def a1J (g:Nat->Bool) (k:Nat):Nat:=(List.range k).countP λi=>!g i
theorem b3e (g:Nat->Bool) (k:Nat):a1J g (k+1)=a1J g k+(if g k then 0 else 1):=by
 unfold a1J;rw[t6,a2w,List.countP_singleton];cases g k<;>rfl
theorem b7Q (g:Nat->Bool) (k:Nat):a1J g k<=k:=by
 unfold a1J;have:=a0L (p:=λi=>!g i) (l:=List.range k)
 rwa [D9]at this
theorem b5y {f:Fd} {i n:Nat} (hn:f.slots.length=n) (hi:i<n) (hg:f.good.getD i false=false) (hr:R.rest f i=true):a1J (λj=>f.good.getD j false) n=1:=by
 unfold a1J;rw[b4D (i:=i) (show(!(f.good.getD i false))=true by rw[hg];rfl) n,d8 hi];intro j hj hji;unfold R.rest at hr;rw[hn,I1]at hr;have:=hr j (List.mem_range.2 hj);simp only[j8,m5,hji,false_or]at this;show(!(f.good.getD j false))=false;rw[this];rfl
def a8U (x b:Fnd):Bool:=decide (x.en.seq>b.en.seq)||(x.en.seq==b.en.seq&&x.whole&& !b.whole)
theorem c1m (x b:Fnd):a8U x b=V.behind b x:=by
 unfold a8U V.behind
 by_cases h:b.en.seq=x.en.seq
 ·rw[d7 (by simpa using h),h,u9 (by omega),E5];rfl
 ·rw[d8 h,beq_eq_false_iff_ne.2 (λe=>h e.symm)];simp
theorem stand_none {l:List Fnd} (h:(V.standOf l).2=false):(V.standOf l).1=Fnd.zero:=by
 revert h
 unfold V.standOf;cases V.tops l with
 | nil=>intro _;rfl
 | cons f o=>intro h;cases h
theorem a7s {l:List Fnd} (hr:∀f∈l,f.en.role≠0):(V.standOf l).1.en.role=0↔(V.standOf l).2=false:=by
 constructor
 ·intro h;cases h2:(V.standOf l).2 with
  | false=>rfl
  | true=>exact absurd h (hr _ (V.standOf_mem h2))
 ·intro h;rw[stand_none h];rfl
def a0J (L:List Fnd) (k:Int):Fnd:=(V.standOf (V.of L k)).1
theorem b3C (L:List Fnd) (x:Fnd) (hr:∀f∈L,f.en.role≠0) (k:Int):a0J (L++[x]) k=if x.en.lpn=k/\((a0J L k).en.role=0\/a8U x (a0J L k)=true)then x else a0J L k:=by
 unfold a0J;rw[V.of_snoc]
 by_cases h:x.en.lpn=k
 ·have hs:=a7s (l:=V.of L k) (λf hf=>hr f (List.mem_filter.1 hf).1);rw[d8 h,V.standOf_snoc,c1m]
  by_cases h2:(V.standOf (V.of L k)).2=false\/V.behind (V.standOf (V.of L k)).1 x=true
  ·rw[d8 h2,d8 ⟨h,h2.imp hs.2 id⟩]
  ·rw[d7 h2,d7 (λh3=>h2 (h3.2.imp hs.1 id))]
 ·rw[d7 h,d7 (λh3=>h h3.1)]
theorem c1z (L:List Fnd) (m:Nat) (k:Nat) (hk:k<m):V.of (L.filter λf=>decide (f.en.lpn<(m:Int))) (k:Int)=V.of L (k:Int):=by
 unfold V.of;rw[a2v];refine Y7 λf _=>?_
 by_cases h:f.en.lpn=(k:Int)
 ·rw[beq_iff_eq.2 h,j3 (by omega)];rfl
 ·rw[beq_eq_false_iff_ne.2 h];rfl
theorem b5z {N:Nand} {x y z:Int} (h:(M.look N x y z).2=1):M.bad (M.look N x y z).1 x y z=false/\0<=x:=by
 have hx:0<=x:=by
  rcases Int.lt_or_le x 0 with hx | hx
  ·exfalso
   have hr:N.refuses x y z=9\/N.refuses x y z=3:=by
    unfold Nand.refuses;split
    ·exact .inl rfl
    ·have:V9 N.dies N.blocks N.pages x y z=false:=by
      unfold V9;rw[u9 (by omega)];rfl
     rw[d8 this];exact .inr rfl
   have he:N.readE x y z=9\/N.readE x y z=3:=by
    unfold Nand.readE;rcases hr with hr | hr<;>rw[hr]<;>simp
   unfold M.look at h;simp only at h;rcases he with he | he<;>rw[he]at h<;>simp at h
  ·exact hx
 refine⟨?_,hx⟩;unfold M.look at h ⊢;dsimp only at h ⊢;split
 ·rename_i h0;rw[d8 h0]at h;split
  ·rename_i h1;rw[d8 h1]at h;simp at h
  ·rename_i h1;simp only[not_or]at h1;simpa using h1.2
 ·rename_i h0;rw[d7 h0]at h;split at h
  ·simp at h
  ·split at h<;>simp at h
theorem b3w {s:Sh} (h:S.entry s=true):s.role=1\/s.role=2\/s.role=3\/s.role=4:=by
 unfold S.entry at h;split at h
 ·exact .inl (by assumption)
 ·split at h
  ·rename_i h1;rcases h1 with h1 | h1
   ·exact .inr (.inl h1)
   ·exact .inr (.inr (.inr h1))
  ·split at h
   ·exact .inr (.inr (.inl (by assumption)))
   ·cases h
theorem b1L {s:Sh} (h:S.may s=true) (hk:s.kind≠2):s.role=1\/s.role=2\/s.role=3\/s.role=4:=by
 unfold S.may at h;rw[u9 hk]at h;simp only[D1,i9]at h;exact b3w h.2.2
theorem b8O {N:Nand} {b r:Int} {f:Fnd} (h:f∈R.all N b r):f.en.role=1\/f.en.role=2\/f.en.role=4:=by
 unfold R.all at h;rw[H0]at h;obtain⟨m,_,h⟩:=h;unfold R.allM at h;rw[List.mem_filterMap]at h;obtain⟨k,hk,h⟩:=h;rw[M8,(X8 N b r m).1]at hk;unfold R.fnd at h;split at h
 ·rename_i hc;injection h with h;subst h;simp only[i9,C2,D4]at hc;obtain⟨h1,h3⟩:=hc;dsimp only;have key:(R.enAt (R.look N b r m) k).role=1\/(R.enAt (R.look N b r m) k).role=2\/(R.enAt (R.look N b r m) k).role=3\/(R.enAt (R.look N b r m) k).role=4:=by
   obtain⟨e2,e1⟩:=a5U N b r m hk;unfold R.enAt;unfold R.okAt at h1;split
   ·rename_i hg;rw[d6,e2,j5];rw[e1]at hg;unfold R.one at hg ⊢;simp only[i9,m5]at hg;obtain⟨hl,hm⟩:=hg;obtain⟨hb,hx⟩:=b5z hl;refine b1L (b1O hl) λhkd=>?_;simp only[M.bad,A5,p6,p9]at hb;obtain⟨⟨⟨b1,b2⟩,b3⟩,b4⟩:=hb;rw[hm,b1,b2,hkd,E5,m5]at b4;obtain⟨o1,o2⟩:=b4b m b r k
    by_cases hlt:k<(a4E m b r).length
    ·have:=o2 k rfl hlt;have hmem:=l7 this;unfold a4E at hmem;split at hmem
     ·have:=(List.mem_filter.1 hmem).2;simp only[C2,D4]at this;exact this b4.symm
     ·cases hmem
    ·have:=o1 (.inr (by omega));omega
   ·rename_i hg;rw[Bool.not_eq_true]at hg;rw[hg,D1]at h1;unfold R.mendB at h1;simp only[i9]at h1;have hb:=h1.2;unfold R.mend;rw[d8 (by rw[i9];exact h1.1),W.back,d8 hb];unfold W.backB at hb;simp only[i9]at hb;exact b1L (s:=W.sh _ _ _ _) hb.2 (show(1:Int)≠2 by decide)
  omega
 ·cases h
theorem b9t {N:Nand} {f:Fnd} (h:f∈V.all N):f.en.role=1\/f.en.role=2\/f.en.role=4:=by
 unfold V.all at h;rw[H0]at h;obtain⟨b,_,h⟩:=h;rw[H0]at h;obtain⟨r,_,h⟩:=h;exact b8O h
def a6I (L:List Fnd) (k:Int) (i:Nat):Int:=((L.take i).filter λf=>f.en.lpn==k&&f.whole).foldl (λm f=>max m f.en.seq) (-1)
theorem b4T (L:List Fnd) (k:Int) (i:Nat) (x:Fnd) (h:L[i]? =some x):a6I L k (i+1)=if(x.en.lpn==k&&x.whole)=true then max (a6I L k i) x.en.seq else a6I L k i:=by
 unfold a6I;rw[s6,h,y9,H2]
 by_cases hp:(x.en.lpn==k&&x.whole)=true
 ·have e:[x].filter (λf=>f.en.lpn==k&&f.whole)=[x]:=by rw[a0d,d8 hp];rfl
  rw[d8 hp,e,z8];rfl
 ·have e:[x].filter (λf=>f.en.lpn==k&&f.whole)=[]:=by rw[a0d,d7 hp];rfl
  rw[d7 hp,e,n9]
theorem b6I (L:List Fnd) (k:Int):a6I L k L.length=V.topSeq ((V.of L k).filter λf=>f.whole):=by
 unfold a6I V.topSeq V.of;rw[D2,a2v];congr 1;exact Y7 λf _=>Bool.and_comm _ _
def a1q (H:List Int) (L:List Fnd) (k:Int) (t:Int) (i:Nat):List Int:=(((L.take i).filter λf=>f.en.lpn==k&&f.whole&&f.en.seq==t).map (·.block)).foldl a2N H
theorem b3q (H:List Int) (L:List Fnd) (k t:Int) (i:Nat) (x:Fnd) (h:L[i]? =some x):a1q H L k t (i+1)=if(x.en.lpn==k&&x.whole&&x.en.seq==t)=true then a2N (a1q H L k t i) x.block else a1q H L k t i:=by
 unfold a1q;rw[s6,h,y9,H2]
 by_cases hp:(x.en.lpn==k&&x.whole&&x.en.seq==t)=true
 ·have e:[x].filter (λf=>f.en.lpn==k&&f.whole&&f.en.seq==t)=[x]:=by rw[a0d,d8 hp];rfl
  rw[d8 hp,e,x7,z8];rfl
 ·have e:[x].filter (λf=>f.en.lpn==k&&f.whole&&f.en.seq==t)=[]:=by rw[a0d,d7 hp];rfl
  rw[d7 hp,e,n9]
theorem b5t (H:List Int):∀B:List Int,Z8 (H++B)=B.foldl a2N (Z8 H):=by
 intro B;have:∀k,k<=B.length->Z8 (H++B.take k)=(B.take k).foldl a2N (Z8 H):=by
  intro k
  induction k with
  | zero=>intro _;simp
  | succ k ih=>
   intro hk;rw[s6,d5 (by omega),y9,<- s8,b3c,z8,ih (by omega)];rfl
 have h:=this B.length (j7 _)
 rwa [D2]at h
theorem b5T (H:List Int) (L:List Fnd) (k:Int) (h0:∀f∈L,0<=f.en.seq):a1q (Z8 H) L k (a6I L k L.length) L.length=Z8 (H++V.holds (V.of L k)):=by
 rw[b5t,b6I];unfold a1q V.holds;rw[D2,V.tops_whole ((V.of L k).filter λf=>f.whole) (λf hf=>⟨(List.mem_filter.1 hf).2,h0 f (List.mem_filter.1 (List.mem_filter.1 hf).1).1⟩)];congr 2;unfold V.of;rw[a2v,a2v];refine Y7 λf _=>?_;cases f.en.lpn==k<;>cases f.whole<;>simp
theorem b5S (H:List Int) (L:List Fnd) (k t:Int) (i:Nat):(a1q H L k t i).length<=H.length+i:=by
 have hi:∀(l:List Int) (b:Int),(a2N l b).length<=l.length+1:=by
  intro l
  induction l with
  | nil=>intro b;simp[a2N]
  | cons x l ih=>
   intro b;simp only[a2N];split
   ·rw[m6,m6];have:=ih b;omega
   ·split
    ·omega
    ·simp
 have hf:∀(B:List Int) (H:List Int),(B.foldl a2N H).length<=H.length+B.length:=by
  intro B
  induction B with
  | nil=>intro H;simp
  | cons b B ih=>
   intro H;rw[C0,m6];have:=ih (a2N H b);have:=hi H b;omega
 unfold a1q;refine E7 (hf _ _) ?_;rw[m9];have:=B4 (λf:Fnd=>f.en.lpn==k&&f.whole&&f.en.seq==t) (L.take i);rw[l9]at this;omega
def stL (o:Option AtV):List Value:=[.bool o.isSome,iI (o.getD AtV.zero).block,iI (o.getD AtV.zero).row,iI (o.getD AtV.zero).slot,iI (o.getD AtV.zero).mask,iI (o.getD AtV.zero).seq,iI (o.getD AtV.zero).role]
def stC (l:List (Int×AtV)) (m:Nat):List Value:=(List.range m).flatMap λi=>stL (Tb.look l (i:Nat))
theorem b5e {m i:Nat} (h:i<m):(List.range m)[i]? =some i:=O9 h
theorem a9Z (l:List (Int×AtV)) (m:Nat):(stC l m).length=m*7:=by
 unfold stC
 induction m with
 | zero=>rfl
 | succ m ih=>rw[t6,C5,f9,ih,Q6];rfl
theorem b6V (l:List (Int×AtV)) {m i:Nat} (h:i<m):((stC l m).drop (i*7)).take 7=stL (Tb.look l (i:Nat)):=O4 (λi:Nat=>stL (Tb.look l (i:Nat))) 7 (λ_=>rfl) (List.range m) i i (b5e h)
theorem a2D (l:List (Int×AtV)) {m i:Nat} (h:i<m) (j:Nat) (hj:j<7):(stC l m)[i*7+j]? =(stL (Tb.look l (i:Nat)))[j]?:=by
 rw[<- b6V l h,A9,d8 hj,C4]
theorem b6U (m:Nat):(List.replicate m (stL none)).flatten=stC [] m:=by
 unfold stC
 induction m with
 | zero=>rfl
 | succ m ih=>rw[t6,C5,<- ih,a4u,List.flatten_append];simp[Tb.look]
theorem b9X (l:List (Int×AtV)) {m i:Nat} (h:i<m) (a:AtV):(stC l m).take (i*7)++stL (some a)++(stC l m).drop (i*7+7)=stC (Tb.put1 l i a) m:=by
 have hlen:=a9Z l m;have hlen2:=a9Z (Tb.put1 l i a) m;apply v6;intro n;rcases Q7 n (m*7)with hn | hn
 ·have hk:n/7<m:=by omega
  have hj:n % 7<7:=a2u _ (by decide);have hnn:n=n/7*7+n % 7:=by omega
  have hr:(stC (Tb.put1 l i a) m)[n]? =(stL (if n/7=i then some a else Tb.look l ((n/7:Nat):Int)))[n % 7]?:=by
   conv=>lhs;rw[hnn]
   rw[a2D _ hk _ hj,Tb.look_put1]
   by_cases e:n/7=i
   ·rw[d8 e,d8 (by omega)]
   ·rw[d7 e,d7 (by omega)]
  rw[hr];have hmid:(stL (some a)).length=7:=rfl;have htk:((stC l m).take (i*7)).length=i*7:=by rw[l9,hlen];omega
  rcases Nat.lt_trichotomy (n/7) i with h1 | h1 | h1
  ·rw[d7 (by omega),t7 (by rw[f9,htk];omega),t7 (by rw[htk];omega),A9,d8 (by omega)]
   conv=>lhs;rw[hnn]
   rw[a2D _ hk _ hj]
  ·rw[d8 h1,t7 (by rw[f9,htk,hmid];omega),y6 (by rw[htk];omega),htk];congr 1;omega
  ·rw[d7 (by omega),y6 (by rw[f9,htk,hmid];omega),f9,htk,hmid,C4,show i*7+7+(n-(i*7+7))=n from by omega]
   conv=>lhs;rw[hnn]
   rw[a2D _ hk _ hj]
 ·have e1:(stC (Tb.put1 l i a) m)[n]? =none:=l4 (by rw[hlen2];exact hn);rw[e1];refine l4 ?_;rw[f9,f9,l9,x4,hlen];show min (i*7) (m*7)+7+(m*7-(i*7+7))<=n;omega
def b2B (q:Nat) (t:Tb) (m:Nat) (g:Nat):List Atom:=[.pt q 202 [.slice (some ⟨g,0,none⟩) m m,iI t.next], .pt g 207 (stC t.at_ m)]
def b0W (q:Nat) (t:Tb) (m:Nat):Atom:=exA λg:Nat=>b2B q t m g
theorem c3Z (n:Int):(if(if(65536:Int)<n then 65536 else n)>0 then(if(65536:Int)<n then 65536 else n)else 0)=min (max n 0) 65536:=by
 by_cases h:(65536:Int)<n
 ·simp only[d8 h];rw[d8 (by decide)];omega
 ·simp only[d7 h];split<;>omega
theorem c1b (n:Int) (m:Nat) (hm:min (max n 0) 65536=(m:Int)):FP 136 [iI n] [] (λv As=>∃q,v=pp q/\As=[b0W q (Tb.new n) m]):=by
 have hm1:m<=65536:=by omega
 refine FE [0] Tryz.func136 λX F hX=>?_;refine J.qn 9 λ_=>?_;rw[c3Z,hm];refine J.mk 2 λg=>?_;have hz:(List.replicate m [Value.bool false,iI 0,iI 0,iI 0,iI 0,iI 0,iI 0]).flatten=stC (Tb.new n).at_ m:=b6U m;rw[hz];refine J.q λbs=>?_;refine J.cl (λg:Nat=>b2B (bs 0) (Tb.new n) m g) g [2,1] ?_;refine J.qr [2] λ_=>?_;exact⟨bs 0,rfl,rfl⟩
theorem c1a (q:Nat) (t:Tb) (m:Nat) (e:En) (b r s mk:Int) (hl:0<=e.lpn/\e.lpn<(m:Int)) (hm:m<=65536) (hlog:t.logical=(m:Int)) (hr:e.role=1\/e.role=2\/e.role=4) (hs:0<=e.seq/\e.seq<=1099511627775) (hno:Tb.look t.at_ e.lpn=none):
  FP 139 [pp q,enV e,plV b r s,iI mk] [b0W q t m] (Ps (.bool true) [b0W q (t.put e b r s mk) m]):=by
 obtain⟨i,hi⟩:=g7 hl.1;have him:i<m:=by omega
 have hput:t.put e b r s mk=⟨t.logical,Tb.put1 t.at_ e.lpn ⟨b,r,s,mk,e.seq,e.role⟩,Tb.cnt2 t e b,if e.seq>=t.next then e.seq+1 else t.next⟩:=by
  have ho:t.ok e=true:=by
   unfold Tb.ok;rw[hlog,u9 (by omega),u9 (by omega)];rcases hr with h | h | h<;>rw[h]<;>rfl
  have he:t.elder e=false:=by unfold Tb.elder;rw[hno]
  unfold Tb.put Tb.putB;rw[ho,he];rfl
 have hcell0:=a2D t.at_ him 0 (by decide);rw[<- hi,hno]at hcell0;refine FE [2,0,0,0] Tryz.func139 λX F hX=>?_;refine J.o (α:=Nat) 1 λg=>?_;refine J.pn 1 (.of [0,5,8,12,16,21,24,28,32,37,40,44,48,52,56,61,64,68,72,77,80,84,88,92,97,100,104,108,112,116,120,124,129,132,137,140,144,149,152,156,161,164,168,172,177,180,185,188,192,197,200,204,208]) [] [1,2,3,4] λ_ _=>?_;refine J.run hX tk 400 (λb5=>rfl) (λb5=>?_) (λb5=>?_)
 ·(repeat' (first | exact Conj.nil | refine Conj.cons ?_ ?_ | exact rfl | exact hq | (rw[hq];rfl) | (rw[(i7 _).mp hq]) | intro hq | omega | (simp;done) | (simp_all;done)))
 have hgd:(decide (e.lpn<0)||decide (e.lpn>=(m:Int))||e.role !=1&&e.role !=2&&e.role !=4)=false:=by
  rw[u9 (by omega),u9 (by omega)];rcases hr with h | h | h<;>rw[h]<;>rfl
 rw[hgd];refine J.vT (.bool false) rfl rfl (λhg a w he hC=>?_) ?_
 ·exact x9 tk rfl rfl he rfl rfl rfl (hC rfl _ (r8 (i:=2) rfl)) (by rw[show 0+e.lpn.toNat*7+0=i*7+0 from by omega];exact hcell0)
 refine J.run hX tk 400 (λb6=>rfl) (λb6=>?_) (λb6=>?_)
 ·(repeat' (first | exact Conj.nil | refine Conj.cons ?_ ?_ | exact rfl | exact(λhq=>absurd hq (by decide)) | intro hq | omega))
 refine J.vT (iI 0) rfl rfl (λhg a w he hC=>by simp[G.on]at hg) ?_;refine J.run hX tk 400 (λb7=>rfl) (λb7=>?_) (λb7=>?_)
 ·(repeat' (first | exact Conj.nil | refine Conj.cons ?_ ?_ | exact rfl | exact(λhq=>absurd hq (by decide)) | intro hq | omega))
 refine J.qF λ_=>?_;refine J.pn 2 (.of [0,4,8,13,16,21,25,28,32,37,40,45,48,52,59]) [13,14] [1,3,4] λ_ _=>?_;refine J.run hX tk 400 (λb11=>rfl) (λb11=>?_) (λb11=>?_)
 ·(repeat' (first | exact Conj.nil | refine Conj.cons ?_ ?_ | exact rfl | exact(λhq=>absurd hq (by decide)) | intro hq | omega))
 refine J.storeN hX tk 2 rfl rfl rfl rfl rfl rfl rfl rfl rfl rfl rfl rfl rfl ?_ (stC (Tb.put1 t.at_ i ⟨b,r,s,mk,e.seq,e.role⟩) m) ?_ rfl (λ_=>rfl) ⟨trivial,?_⟩
 ·rw[a9Z];show 0+e.lpn.toNat*7+7<=m*7;omega
 ·rw[show 0+e.lpn.toNat*7=i*7 from by omega];exact b9X t.at_ him ⟨b,r,s,mk,e.seq,e.role⟩
 refine J.pn 2 (.of [0,5,8,12,16,21,24]) [] [1,2,3,4] λ_ _=>?_;refine J.qd (λ_ hq=>?_) λ_ hq=>?_
 ·have hq2:e.seq>=t.next:=by simpa using hq
  refine J.q λ_=>?_;refine J.close (f:=λg:Nat=>b2B q (t.put e b r s mk) m g) g [1,2] rfl (by rw[hput,d8 hq2,hi];rfl) rfl ?_;exact J.qx [1]
 ·have hq2:¬e.seq>=t.next:=by simpa using hq
  refine J.q λ_=>?_;refine J.close (f:=λg:Nat=>b2B q (t.put e b r s mk) m g) g [1,2] rfl (by rw[hput,d7 hq2,hi];rfl) rfl ?_;exact J.qx [1]
theorem b3u (x b:Fnd):FP 138 [fdV x,fdV b] [] (Ps (.bool (a8U x b)) []):=by
 refine FE [0,0] Tryz.func138 λX F hX=>?_;refine J.run hX tk 400 (λb1=>rfl) (λb1=>?_) (λb1=>?_)
 ·(repeat' (first | exact Conj.nil | refine Conj.cons ?_ ?_ | exact rfl | intro hq | assumption | (simp_all;done)))
 exact J.qx []
theorem b1G (x:Int):(x !=2&&x !=4)= !(x==2||x==4):=by
 simp only[bne,Bool.not_or]
theorem a9O (N:Nand) (b r:Int):V.blankRow N b r=true↔∀d:Nat,d<N.dies->((M.look N (d:Nat) b r).2==2||(M.look N (d:Nat) b r).2==4)=true:=by
 unfold V.blankRow M.rowN;rw[I1];constructor
 ·intro h d hd;exact h _ (List.mem_map.2 ⟨d,List.mem_range.2 hd,rfl⟩)
 ·intro h x hx;obtain⟨d,hd,rfl⟩:=List.mem_map.1 hx;exact h d (List.mem_range.1 hd)
theorem c0F {N:Nand} {f:Fnd} {r0 r:Nat} (hr:f.row=(r0:Int)) (h1:r0<r) (h2:r<N.pages) (h3:V.blankRow N f.block (r:Nat)=false):V.last N f=false:=by
 unfold V.last;rw[P9];left;rw[List.all_eq_false];refine⟨r,List.mem_range.2 h2,?_⟩;rw[h3,hr,u9 (by omega)];exact s9
theorem b8c {N:Nand} {f:Fnd} {r0:Nat} (hr:f.row=(r0:Int)) (h:∀r:Nat,r0<r->r<N.pages->V.blankRow N f.block (r:Nat)=true):V.last N f=((M.look N (G.parity f.mask f.block f.row) f.block f.row).2 !=4):=by
 have:((List.range N.pages).all λr:Nat=>decide ((r:Int)<=f.row)||V.blankRow N f.block r)=true:=by
  rw[I1];intro r hrm;rw[hr,j8]
  by_cases hle:(r:Int)<=(r0:Int)
  ·exact .inl (j3 hle)
  ·exact .inr (h r (by omega) (List.mem_range.1 hrm))
 unfold V.last;rw[this];show(_ !=(4:Int))=_;rfl
theorem b9b (p:Nat) (N:Nand) (hN:N.Ok) (hR:N.Room) (f:Fnd) (r0:Nat) (hr:f.row=(r0:Int)) (hr2:r0<=1000):FP 140 [pp p,fdV f] [x6 p N]
  (Ps (.bool (V.last N f)) [x6 p N]):=by
 have hbd:=hN.bd;have e5:f.row+1=((r0+1:Nat):Int):=by omega
 refine FE [2,0] Tryz.func140 λX F hX=>?_;refine J.q λbb=>?_;rw[e5];refine J.q λ_=>?_;refine J.l (α:=Nat) (λr=>r0<r/\r<=1100/\∀r':Nat,r0<r'->r'<r->V.blankRow N f.block (r':Nat)=true) (λr=>[si 5 r,⟨3,pp (bb 0),3, .tt⟩,⟨0,pp p,2, .tt⟩]) [] (λr=>[]) (λr=>N.pages-r) (r0+1) (⟨by omega,by omega,λr' h1 h2=>by omega⟩) λr hI=>?_;obtain⟨hI1,hI2,hI3⟩:=hI;refine J.qp (a0H p N) [1] λ_=>?_;refine J.qd (λ_ h1=>?_) λ_ h1=>?_
 ·simp only[c9,g6]at h1;refine J.q λb7=>?_;refine J.l (α:=Nat) (λd=>d<=N.dies/\∀d':Nat,d'<d->((M.look N (d':Nat) f.block (r:Nat)).2==2||(M.look N (d':Nat) f.block (r:Nat)).2==4)=true) (λd=>[si 6 d,si 5 r,⟨3,pp (bb 0),3, .tt⟩,⟨0,pp p,2, .tt⟩]) [] (λd=>[]) (λd=>N.dies-d) (0) (⟨j4 _,λd' h=>by omega⟩) λd hI=>?_;obtain⟨hJ1,hJ2⟩:=hI;refine J.qp (a0H p N) [1] λ_=>?_;refine J.qd (λ_ h2=>?_) λ_ h2=>?_
  ·simp only[c9,g6]at h2;refine J.qp (a6Z p N hN hR d f.block r) [1] λ_=>?_;refine J.qd (λ_ h3=>?_) λ_ h3=>?_
   ·have hnb:V.blankRow N f.block (r:Nat)=false:=by
     rw[a0W];intro hb;have:=(a9O N f.block r).1 hb d h2;have h3':((M.look N (d:Nat) f.block (r:Nat)).2 !=2&&(M.look N (d:Nat) f.block (r:Nat)).2 !=4)=true:=h3;rw[b1G,this]at h3';cases h3'
    refine J.qr [1] λ_=>?_;exact⟨by rw[c0F hr hI1 h1 hnb],rfl⟩
   ·have hok:((M.look N (d:Nat) f.block (r:Nat)).2==2||(M.look N (d:Nat) f.block (r:Nat)).2==4)=true:=by
     have h3':((M.look N (d:Nat) f.block (r:Nat)).2 !=2&&(M.look N (d:Nat) f.block (r:Nat)).2 !=4)=false:=h3;rw[b1G,p9]at h3';exact h3'
    refine J.q λ_=>?_;refine J.nS (d+1) (⟨by omega,λd' hd'=>by
     rcases Nat.lt_succ_iff_lt_or_eq.1 hd' with h | h
     ·exact hJ2 d' h
     ·rw[h];exact hok⟩) (by omega) [0,1,2] rfl rfl
  simp only[c8,g6]at h2;have hbl:V.blankRow N f.block (r:Nat)=true:=(a9O N f.block r).2 λd' hd'=>hJ2 d' (by omega);refine J.q λ_=>?_;refine J.nS (r+1) (⟨by omega,by omega,λr' h3 h4=>by
   rcases Nat.lt_succ_iff_lt_or_eq.1 h4 with h | h
   ·exact hI3 r' h3 h
   ·rw[h];exact hbl⟩) (by omega) [0,1,2] rfl rfl
 simp only[c8,g6]at h1;have hlast:=b8c hr λr' h2 h3=>hI3 r' h2 (by omega);refine J.p (.take true 0 (.take false 1 (.take true 2 (.take true 3 (.take false 4 (.take true 5 (.take true 6 (.take false 7 (.take true 9 (.take true 10 (.take false 11 (.take true 12 (.take true 13 (.take false 14 (.alt false 8 ((.of [60,66,71])) (.alt false 16 ((.of [34,60,71])) .non)))))))))))))))) [17] [2] λ_=>?_;refine J.join (α:=Nat) (λx=>[⟨9,pp x,4, .tt⟩,⟨3,pp (bb 0),3, .tt⟩,⟨0,pp p,2, .tt⟩]) (λx=>[.hp F,x6 p N, .pt (bb 0) 191 (fnL f), .pt x 55 [iI (G.parity f.mask f.block f.row),iI f.block,iI f.row]]) (λhj=>?_) (λx=>?_)
 ·refine J.q λ_=>?_;refine J.alts ?_ ?_
  ·refine J.qp (a1D f.mask f.block f.row) [] λ_=>?_;refine J.qn 2 λb7=>?_;refine J.qn 2 λ_=>?_;exact J.goto [0,1,2,3] (hj (b7 0)) ⟨rfl,rfl,rfl,trivial⟩ rfl rfl
  ·refine J.qn 1 λb7=>?_;refine J.qp (a1D f.mask f.block f.row) [] λ_=>?_;refine J.qn 3 λ_=>?_;exact J.goto [0,1,2,3] (hj (b7 0)) ⟨rfl,rfl,rfl,trivial⟩ rfl rfl
 refine J.qp (a6Z p N hN hR (G.parity f.mask f.block f.row) f.block f.row) [1] λ_=>?_;refine J.qr [1] λ_=>?_;exact⟨by rw[hlast],rfl⟩
theorem a5v (l:List Fnd) (x:Fnd):y7 l++fnL x=y7 (l++[x]):=by simp[y7]
theorem a6B (l m:List Fnd):y7 l++y7 m=y7 (l++m):=by simp[y7]
def a4D (N:Nand) (b r m:Int) (j:Nat):List Fnd:=(List.range j).filterMap (R.fnd (R.look N b r m) b r m)
theorem b5m (N:Nand) (b r m:Int) (j:Nat):a4D N b r m (j+1)=a4D N b r m j++(R.fnd (R.look N b r m) b r m j).toList:=by
 unfold a4D;rw[t6,List.filterMap_append];congr 1
theorem b7D (N:Nand) (b r m:Int) (j:Nat):(a4D N b r m j).length<=j:=by
 have:=List.length_filterMap_le (R.fnd (R.look N b r m) b r m) (List.range j)
 rwa [D9]at this
theorem b7E (N:Nand) (b r m:Int) {n:Nat} (hn:(G.slots m).toNat=n):a4D N b r m n=R.allM N b r m:=by
 unfold a4D R.allM;rw[(X8 N b r m).1,hn]
theorem c2A (p:Nat) (N:Nand) (hN:N.Ok) (hR:N.Room) (b r m:Int):FP 208 [pp p,iI b,iI r,iI m] [x6 p N]
  (λv As=>∃a c,v=slv a (R.allM N b r m).length c/\As=[x6 p N,l5 191 25 a (R.allM N b r m).length c (y7 (R.allM N b r m))]):=by
 have hG:=V6 m;obtain⟨n,hn⟩:∃n:Nat,G.slots m=(n:Int):=⟨(G.slots m).toNat,by omega⟩;have hnt:(G.slots m).toNat=n:=by omega
 have hn7:n<=7:=by omega
 obtain⟨hsl,hgl⟩:=X8 N b r m;rw[hnt]at hsl hgl;have hone:∀i:Nat,i<n->(R.look N b r m).slots.getD i Sh.zero=(R.one N b r m (G.die m b r i)).1/\(R.look N b r m).good.getD i false=(R.one N b r m (G.die m b r i)).2:=λi hi=>by
  obtain⟨e1,e2⟩:=a5U N b r m (i:=i) (by omega);exact⟨by rw[d6,e1,j5],e2⟩
 have hwh:(R.look N b r m).whole=(R.one N b r m (G.parity m b r)).2:=rfl;obtain⟨g,hgd⟩:∃g:Nat->Bool,g=λj=>(R.look N b r m).good.getD j false:=⟨_,rfl⟩;refine FE [2,0,0,0] Tryz.func208 λX F hX=>?_;refine J.qp (a1D m b r) [] λ_=>?_;refine J.qp (a8k p N hN hR b r m (G.parity m b r)) [1] λ_=>?_;rw[<- hwh];obtain⟨wh,hwh2⟩:∃wh,wh=(R.look N b r m).whole:=⟨_,rfl⟩;rw[<- hwh2];refine J.q λ_=>?_;refine J.goto (E0:=[si 13 0,si 12 0,sv 10 (.bool wh),sv 11 (slv none 0 0),⟨0,pp p,2, .tt⟩,si 1 b,si 2 r,si 3 m]) (L0:=[.hp F,x6 p N]) [0,1] ?_ ⟨rfl,rfl,rfl,rfl,rfl,rfl,rfl,rfl,trivial⟩ rfl rfl;refine J.q λ_=>?_;refine J.l (α:=Nat) (λk=>k<=n) (λk=>[si 13 k,si 12 (a1J g k),sv 10 (.bool wh),sv 11 (slv none 0 0),⟨0,pp p,2, .tt⟩,si 1 b,si 2 r,si 3 m]) [] (λk=>[]) (λk=>n-k) (0) (j4 _) λk hI=>?_;have hms:=b3e g k;have hml:=b7Q g k;refine J.qp (a4q m) [] λ_=>?_;rw[hn];refine J.qd (λ_ h1=>?_) λ_ h1=>?_
 ·simp only[c9,g6]at h1;obtain⟨_,o2⟩:=hone k h1;have hgk:g k=(R.one N b r m (G.die m b r k)).2:=by rw[hgd];exact o2
  refine J.qp (b3t m b r k) [] λ_=>?_;refine J.qp (a8k p N hN hR b r m (G.die m b r k)) [1] λ_=>?_;rw[<- hgk];refine J.qd (λ_ h2=>?_) λ_ h2=>?_
  ·simp only[i7]at h2;rw[h2]at hms;have hms:a1J g (k+1)=a1J g k+1:=hms;refine J.q λ_=>?_;rw[show((a1J g k:Nat):Int)+1=((a1J g (k+1):Nat):Int)from by omega];refine J.q λ_=>?_;refine J.n (k+1) (by omega) (by omega) [0,1]
  ·simp only[p9]at h2;rw[h2]at hms;have hms:a1J g (k+1)=a1J g k:=hms;rw[<- hms];refine J.q λ_=>?_;refine J.n (k+1) (by omega) (by omega) [0,1]
 simp only[c8,g6]at h1;obtain rfl:k=n:=by omega
 obtain⟨ms,hmsn⟩:∃ms,a1J g k=ms:=⟨_,rfl⟩;rw[hmsn];refine J.turn1 [] rfl (As:=[l5 191 25 none 0 0 (y7 (a4D N b r m 0))]) (λh s=>Sep.one ⟨rfl,rfl,rfl⟩) rfl ?_;refine J.q λ_=>?_;refine J.l (α:=(Nat×Option Nat×Nat)) (λz=>z.1<=k) (λz=>[si 16 z.1,si 12 ms,sv 10 (.bool wh),sv 11 (slv z.2.1 (a4D N b r m z.1).length z.2.2),⟨0,pp p,2, .tt⟩,si 1 b,si 2 r,si 3 m]) [2] (λz=>[l5 191 25 z.2.1 (a4D N b r m z.1).length z.2.2 (y7 (a4D N b r m z.1))]) (λz=>k-z.1) ((0,none,0)) (j4 _) λz hI=>?_;obtain⟨j,ao,co⟩:=z;dsimp only at hI ⊢;have hos:=b5m N b r m j;have hol:=b7D N b r m j;refine J.qp (a4q m) [] λ_=>?_;rw[hn];refine J.qd (λ_ h3=>?_) λ_ h3=>?_
 ·simp only[c9,g6]at h3;obtain⟨o1,o2⟩:=hone j h3;have hfd:R.fnd (R.look N b r m) b r m j=if R.okAt (R.look N b r m) j&&(R.enAt (R.look N b r m) j).role !=3 then some ⟨R.enAt (R.look N b r m) j,b,r,j,m,(R.look N b r m).whole,!((R.look N b r m).good.getD j false)⟩else none:=rfl
  rw[<- hwh2]at hfd;refine J.qp (b3t m b r j) [] λ_=>?_;refine J.qp (a8k p N hN hR b r m (G.die m b r j)) [1] λ_=>?_;rw[<- o1,<- o2];obtain⟨s,hs⟩:∃s,(R.look N b r m).slots.getD j Sh.zero=s:=⟨_,rfl⟩;obtain⟨gj,hgj⟩:∃gj,(R.look N b r m).good.getD j false=gj:=⟨_,rfl⟩;rw[hs,hgj];refine J.qp (b8X s) [] λ_=>?_;refine J.q λbe=>?_;refine J.join (α:={x:Nat×En×Bool//R.okAt (R.look N b r m) j=(gj||x.2.2)/\(R.okAt (R.look N b r m) j=true->x.2.1=R.enAt (R.look N b r m) j/\x.2.2= !gj)}) (λx=>[⟨19,pp x.1.1,4, .tt⟩,sv 18 (.bool gj),sv 20 (.bool x.1.2.2),si 16 j,si 12 ms,sv 10 (.bool wh),sv 11 (slv ao (a4D N b r m j).length co),⟨0,pp p,2, .tt⟩,si 1 b,si 2 r,si 3 m]) (λx=>[.hp F,x6 p N,l5 191 25 ao (a4D N b r m j).length co (y7 (a4D N b r m j)), .pt x.1.1 113 (enL x.1.2.1)]) (λhj=>?_) (λx=>?_)
  ·cases gj with
   | true=>
    have hok:R.okAt (R.look N b r m) j=true:=by unfold R.okAt;rw[hgj];rfl
    have hen:R.enAt (R.look N b r m) j=s.en:=by unfold R.enAt;rw[hgj,d8 rfl,hs]
    refine J.qF λ_=>?_;refine J.qn 1 λ_=>?_;exact J.goto [0,1,2,4] (hj ⟨(be 0,s.en,false),hok,λ_=>⟨hen.symm,rfl⟩⟩) ⟨rfl,rfl,rfl,rfl,rfl,rfl,rfl,rfl,rfl,rfl,rfl,trivial⟩ rfl rfl
   | false=>
    have hok:R.okAt (R.look N b r m) j=R.mendB (R.look N b r m) j:=by unfold R.okAt;rw[hgj];rfl
    have hen:R.enAt (R.look N b r m) j=R.mend (R.look N b r m) j:=by unfold R.enAt;rw[hgj,d7 s9]
    refine J.qd (λ_ h4=>?_) λ_ h4=>?_
    ·refine J.qp (b6c p N hN hR b r m j (by omega)) [1] λ_=>?_;refine J.qn 6 λ_=>?_;exact J.goto [0,1,2,4] (hj ⟨(be 0,R.mend (R.look N b r m) j,R.mendB (R.look N b r m) j),hok,λh=>⟨hen.symm,hok.symm.trans h⟩⟩) ⟨rfl,rfl,rfl,rfl,rfl,rfl,rfl,rfl,rfl,rfl,rfl,trivial⟩ rfl rfl
    ·have hno:R.okAt (R.look N b r m) j=false:=by
      rw[hok,a0W];intro hmb;unfold R.mendB at hmb;simp only[i9]at hmb;have h1:=b5y hsl h3 hgj hmb.1.1;rw[<- hgd,hmsn]at h1;rw[h1]at h4;simp at h4
     refine J.qn 1 λ_=>?_;exact J.goto [0,1,2,4] (hj ⟨(be 0,s.en,false),hno,λh=>by rw[hno]at h;cases h⟩) ⟨rfl,rfl,rfl,rfl,rfl,rfl,rfl,rfl,rfl,rfl,rfl,trivial⟩ rfl rfl
  obtain⟨⟨e,e1,bk⟩,x1,x2⟩:=x;dsimp only at x1 x2 ⊢;rw[hgj]at hfd;refine J.qd (λ_ h5=>?_) λ_ h5=>?_
  ·have h6:(gj||bk)=true/\(e1.role !=3)=true:=by
    revert h5
    cases gj<;>cases bk<;>simp
   have h7:=x2 (x1.trans h6.1);rw[x1,<- h7.1,h6.1,h6.2,<- h7.2]at hfd;have hfd:R.fnd (R.look N b r m) b r m j=some ⟨e1,b,r,j,m,wh,bk⟩:=hfd;rw[hfd,y9]at hos;refine J.q λ_=>?_;refine J.ap 2 4 0 (a5v _ ⟨e1,b,r,j,m,wh,bk⟩) λa2 c2=>?_;rw[show(a4D N b r m j).length+1=(a4D N b r m (j+1)).length from by rw[hos,f9];rfl,<- hos];refine J.q λ_=>?_;refine J.n ((j+1,a2,c2)) (by dsimp only;omega) (by dsimp only;omega) [0,1,2]
  ·have hno:R.fnd (R.look N b r m) b r m j=none:=by
    rw[hfd];cases hk:R.okAt (R.look N b r m) j with
    | false=>rfl
    | true=>
     obtain⟨h7,_⟩:=x2 hk;rw[hk]at x1;rw[<- h7];have:(e1.role !=3)=false:=by
      revert h5
      rw[<- x1];cases gj<;>cases bk<;>simp
     rw[this];rfl
   rw[hno,Option.toList_none,n9]at hos;rw[<- hos];refine J.q λ_=>?_;refine J.n ((j+1,ao,co)) (by dsimp only;omega) (by dsimp only;omega) [0,1,2]
 simp only[c8,g6]at h3;obtain rfl:j=k:=by omega
 rw[b7E N b r m hnt];refine J.qr [1,2] λ_=>?_;exact⟨ao,co,rfl,rfl⟩
theorem c2D (p:Nat) (N:Nand) (hN:N.Ok) (hR:N.Room) (b r:Int):FP 137 [pp p,iI b,iI r] [x6 p N]
  (λv As=>∃a c,v=slv a (R.all N b r).length c/\As=[x6 p N,l5 191 25 a (R.all N b r).length c (y7 (R.all N b r))]):=by
 have hbd:=hN.bd;have hml:=a5Q N b r;refine FE [2,0,0] Tryz.func137 λX F hX=>?_;refine J.qc (T2.f9_Masks p N hN hR b r) [1] λ_=>?_;rintro v As ⟨am,cm,rfl,rfl⟩;refine⟨_,rfl,trivial,?_⟩;refine J.turn1 [] rfl (As:=[l5 191 25 none 0 0 (y7 (a1k N b r 0))]) (λh s=>Sep.one ⟨rfl,rfl,rfl⟩) rfl ?_;refine J.q λ_=>?_;refine J.l (α:=(Nat×Option Nat×Nat)) (λz=>z.1<=(M.masks N b r).length) (λz=>[si 9 z.1,sv 8 (slv am (M.masks N b r).length cm),sv 7 (slv z.2.1 (a1k N b r z.1).length z.2.2),⟨0,pp p,2, .tt⟩,si 1 b,si 2 r]) [3] (λz=>[l5 191 25 z.2.1 (a1k N b r z.1).length z.2.2 (y7 (a1k N b r z.1))]) (λz=>(M.masks N b r).length-z.1) ((0,none,0)) (j4 _) λz hI=>?_;obtain⟨i,ao,co⟩:=z;dsimp only at hI ⊢;have hol:=a5e N b r i (by omega);refine J.qd (λ_ h1=>?_) λ_ h1=>?_
 ·simp only[c9,g6]at h1;refine J.know (λh' s=>u7 (c:=(am,cm)) (by omega) (s.get (i:=2) rfl)) λhg=>?_;obtain⟨gm,rfl⟩:=hg;obtain⟨mk,hmk⟩:∃mk,(M.masks N b r)[i]? =some mk:=⟨_,d5 h1⟩;have hal:=b2A N b r mk;have hout:a1k N b r (i+1)=a1k N b r i++R.allM N b r mk:=by
   unfold a1k;rw[s6,hmk,y9,C5,q9,List.flatMap_nil,n9]
  refine J.q λ_=>?_;refine J.v (iI mk) rfl rfl (λhg a w he hw=>?_) ?_
  ·exact z7 tk rfl rfl he rfl rfl rfl (hw.get (i:=2) rfl) (by rw[show 0+(i:Int).toNat*1=i from by omega];exact L5 hmk)
  refine J.qc (c2A p N hN hR b r mk) [1] λ_=>?_;rintro v As ⟨a1,c1,rfl,rfl⟩;refine⟨_,rfl,trivial,?_⟩;refine J.q λ_=>?_;refine J.appendO hX tk 3 4 rfl rfl rfl rfl rfl rfl rfl rfl rfl rfl rfl rfl rfl (a4O _) ?_ ?_ (λ_=>rfl) λa6 c6=>⟨_,(congrArg (λy=>Q2 _ 3 (l5 _ _ _ _ _ y)) (a6B _ _)).trans rfl,trivial,?_⟩
  ·simp only[maxLen];omega
  ·omega
  rw[show(a1k N b r i).length+(R.allM N b r mk).length=(a1k N b r (i+1)).length from by rw[hout,f9],<- hout];refine J.q λ_=>?_;refine J.n ((i+1,a6,c6)) (by dsimp only;omega) (by dsimp only;omega) [0,1,2,3]
 simp only[c8,g6]at h1;obtain rfl:i=(M.masks N b r).length:=by omega
 have hall:a1k N b r (M.masks N b r).length=R.all N b r:=by unfold a1k R.all;rw[D2]
 rw[hall];refine J.qr [1,3] λ_=>?_;exact⟨ao,co,rfl,rfl⟩
end Go.Proofs.YtpakpgkdpofbhaaGreat
namespace Go.Proofs.YtpakpgkdpofbhaaGreat
open Go Go.RowKit
open Go.ChangeShapes Go.WideShapes Go.ChangeAt
section
variable {H : Type} {enc : TypeId × Value → H} {w : World} {base : Nat} {spare : Nat → Bool} {held : Bool}
end
end Go.Proofs.YtpakpgkdpofbhaaGreat
namespace Go.Proofs.YtpakpgkdpofbhaaGreat
open Go Go.RowKit
section
variable {X : Cx} {P : Program} {K : List KI} {E : Env} {L : List Atom} {N : Nat} {F : HP} {Post : Value → List Atom → Prop} {rs : List ResultVar} {T : Tab}
theorem J.appendAny (hX:IsCx X P rs N F Post) (hT:TabOK P T) {ops:Array Oper} {C:Cl} {lt:Bool} {i:Nat} {t:PT} {o:Oper} {x y:Operand} {st e size by_:Nat} {ks tgs:Nat} {gs:G} {a:Option Nat} {n cap:Nat} {xs:List Value} {ky tgy:Nat} {gy:G} {ay:Option Addr} {m cy:Nat} {cs:List Value} {s1 b1:Nat} {z1:List Value} {E':Value->Env} {Ay:Atom} (is iy:Nat) (hc0:ay=none->cy=0)
  (ho:H7 ops.toList i=some o) (hg:gd ops.toList E o=some .tt) (hop:o.op= .call ⟨.builtin .append,#[x,y],#[st,st]⟩)
  (hx:ev E x=some ⟨ks,slv a n cap,tgs,gs⟩) (hvx:gs.on=true) (hy:ev E y=some ⟨ky, .slice ay m cy,tgy,gy⟩) (hvy:gy.on=true)
  (hLs:H7 L is=some (l5 e size a n cap xs)) (hLy:H7 L iy=some Ay) (hrd:Rd Ay ay size m cs) (hst:T.get st=some ⟨.slice e size,s1,z1,b1⟩) {td:TD} {z:List Value} (he:T.get e=some ⟨td,size,z,by_⟩) (hz:Nat.beq z.length size=true)
  (hsz:Nat.blt 0 size=true) (h1:∀u∈cs,u.oneCell'=true) (h63:n+m<=maxLen) (hbytes:(n+m)*by_<=140737488355328)
  (hd:∀v,V8 N o.dst v 0 .tt E=some (E' v))
  (hJ:∀a' cap',∃L',Q2 L is (l5 e size a' (n+m) cap' (xs++cs))=some L'/\Conj (J4 lt C L')/\J X (.reg ops C t::K) (E' (slv a' (n+m) cap')) L'):J X (.reg ops C (.alt lt i t .non)::K) E L:=by
 cases ay with
 | none=>
  exact J.appendRO hX hT (ay:=none) is iy (λ_=>hc0 rfl) ho hg hop hx hvx hy hvy hLs hLy hrd hst he hz hsz h1 h63 hbytes hd hJ
 | some ad=>
  refine J.op hX (S:=λv L'=>∃a' cap',v=slv a' (n+m) cap'/\L'=L.set is (l5 e size a' (n+m) cap' (xs++cs))) 0 ho hg rfl (λa0 w hen hs=>?_) hd (λv L' ⟨a',cap',e1,e2⟩=>by subst e1;subst e2;obtain⟨L2,q1,q2⟩:=hJ a' cap';rw[<- R9 q1];exact q2);obtain⟨d,f,zv,ok⟩:=y8 (hT.get hst);obtain⟨fe,rfl,g1,g2⟩:=ok.slice rfl;obtain⟨d',f',zv',ok'⟩:=y8 (hT.get he);have hf:fe=f':=by have:=g1.symm.trans ok'.hf;injection this
  subst hf;have hzz:z=zv'.cells.toList:=ok'.hzero;subst hzz;rw[H6]at hLs hLy;have hrow:=a5d (hs.get hLs);have hrd2:=hrd _ (hs.get hLy);have hnews:∀j u,cs[j]? =some u->w.cell? (ad.add j)=some u:=λj u hu=>by
   rcases K7 m with h0 | h0
   ·have:=hrd2.1;rw[h0,L7]at this;rw[s7 this]at hu;simp at hu
   ·obtain⟨b,oo,hba⟩:=Rd.addr hrd2 h0;injection hba with hba;subst hba;rw[Addr.add_none];exact a5b hrd2 h0 hu
  obtain⟨v',w',r1,r2,r3,_,r5⟩:=run_append_own_at (P:=P) w 0 st o.type e fe zv' size by_ ok.hd ok'.hf ok'.hz g2 ok'.hbytes.symm (by have:=A8 hz;simpa using this) (H1 hsz) _ n xs hrow ad m cy cs hrd2.1 hnews h1 h63 hbytes (j4 _);obtain⟨a',cap',e1,e2,e3⟩:=a7C r2;subst e1;have ex:=A6 hen hx;have ey:=A6 hen hy;simp only[Slot.val,hvx,hvy]at ex ey;refine⟨_,_, .value (slv a' (n+m) cap'),w',⟨a',cap',rfl,rfl⟩,?_, .inl rfl,?_,Ext.grown r3⟩
  ·simp only[execOp,hop,resolve,Sem.run_bind,Sem.run_pure,Result.andThen_ok,invoke,builtin,a1t,x5,R5,ex,ey,r1]
  ·refine Sep.step hs hLs (x:=(slv a n cap).ownBlock) (x':=a') (λh g0 hh he0=>?_) r3 (by rw[<- e3];exact r5) (λh hh=>⟨e2.1,?_⟩)
   ·cases a with
    | none=>simp[slv,Value.ownBlock]at he0
    | some ga=>
     simp only[slv,Value.ownBlock,l8]at he0;subst he0;obtain⟨cur,h1,_⟩:=hh.2;exact⟨_,h1⟩
   ·have e22:=e2.2;cases a' with
    | none=>exact e22
    | some ga=>
     obtain⟨cur,q1,q2⟩:=e22;exact⟨cur,(hh ga rfl).trans q1,q2⟩
end
theorem c0C (a b:Int):(if b>a then b else a)=max a b:=by split<;>omega
theorem spot_eq {l:List Int} {b:Int} {k:Nat} (h1:∀i,i<k->l.getD i 0<b) (hk:k<=l.length) (h2:k=l.length\/¬l.getD k 0<b):a3n l b=k:=by
 unfold a3n
 induction l generalizing k with
 | nil=>
  obtain rfl:k=0:=by simpa using hk
  rfl
 | cons x l ih=>
  cases k with
  | zero=>
   rcases h2 with h2 | h2
   ·simp at h2
   ·rw[List.getD_cons_zero]at h2;rw[List.takeWhile_cons_of_neg (by simpa using h2)];rfl
  | succ k=>
   have h0:=h1 0 (by omega);rw[List.getD_cons_zero]at h0;rw[List.takeWhile_cons_of_pos (by simpa using h0),m6,ih (k:=k) (λi hi=>by have:=h1 (i+1) (by omega);rwa [a0a]at this) (by simpa using hk) (h2.imp (λh=>by simpa using h) (λh=>by rwa [a0a]at h))]
theorem Q3 {l:List Fnd} {k:Nat} {x:Fnd} (h:l[k]? =some x) (j:Nat) (hj:j<25):(y7 l)[0+(k:Int).toNat*25+j]? =(fnL x)[j]?:=by
 rw[show 0+(k:Int).toNat*25+j=k*25+j from by omega];exact b2t h j hj
theorem b6h {P:Program} {T:Tab} {E:Env} {n:Nat} {ac:Act} {w:World} (hT:TabOK P T) {o:Oper} {t e size:Nat} {x y:Operand} {k1 k2 t1 t2:Nat} {g1 g2:G} {a:Option Addr} {m c h:Nat} {kk:IntKind} {s1 b1 b2:Nat} {z1 z2:List Value} {td:TD} (hop:o.op= .slice t x none (some y) none) (hx:ev E x=some ⟨k1, .slice a m c,t1,g1⟩) (hy:ev E y=some ⟨k2, .int kk h,t2,g2⟩) (he:EnvOK n E ac) (v1:g1.on=true) (v2:g2.on=true)
  (ht:T.get t=some ⟨.slice e size,s1,z1,b1⟩) (hte:T.get e=some ⟨td,size,z2,b2⟩) (hc:h<=c):
  (execOp ac.eval o).run P w= .ok (.value (.slice a h c)) w:=by
 have e1:=A6 he hx;have e2:=A6 he hy;simp only[Slot.val,v1,v2]at e1 e2;obtain⟨d,f,zv,ok⟩:=y8 (hT.get ht);obtain⟨fe,rfl,g1,g2⟩:=ok.slice rfl;have h0:∀ad:Addr,ad.add 0=ad:=λad=>by unfold Addr.add;rw[d8 rfl]
 cases a with
 | none=>
  simp only[execOp,hop,B5,I7,e1,e2,Instr.sliceAt,Instr.slice,Instr.sliceBounds,Instr.sliceBound,asIntOf,Sem.run_bind,Sem.run_pure,Result.andThen_ok,s4 ok.hd,E9 g1,g2];simp[hc,h0]
 | some ad=>
  simp only[execOp,hop,B5,I7,e1,e2,Instr.sliceAt,Instr.slice,Instr.sliceBounds,Instr.sliceBound,asIntOf,Sem.run_bind,Sem.run_pure,Result.andThen_ok,s4 ok.hd,E9 g1,g2];simp[hc,h0]
theorem b9c (al:Option Nat) (nl cl:Nat) (H:List Int) (hH:H.length=nl) (hnl:nl<=100000) (ai:Option Nat) (ni ci:Nat) (I:List Fnd) (hIl:I.length=ni) (hni:ni<=100000) (k:Int):
  FP 141 [slv al nl cl,slv ai ni ci,iI k] [l5 3 1 al nl cl (n7 H),l5 191 25 ai ni ci (y7 I)]
  (λv As=>∃a c,v=slv a (a1q H I k (a6I I k ni) ni).length c/\As=[l5 3 1 a (a1q H I k (a6I I k ni) ni).length c (n7 (a1q H I k (a6I I k ni) ni)),l5 191 25 ai ni ci (y7 I)]):=by
 subst hH;refine FE [0,0,0] Tryz.func141 λX F hX=>?_;refine J.q λ_=>?_;refine J.l (α:=Nat) (λi=>i<=ni) (λi=>[si 8 i,si 7 (a6I I k i),sv 0 (slv al H.length cl),sv 1 (slv ai ni ci),si 2 k]) [] (λi=>[]) (λi=>ni-i) (0) (j4 _) λi hI=>?_;refine J.qd (λ_ h1=>?_) λ_ h1=>?_
 ·simp only[c9,g6]at h1;obtain⟨x,hx⟩:∃x,I[i]? =some x:=⟨_,d5 (by omega)⟩;have hts:=b4T I k i x hx;refine J.know (λh' s=>u7 (c:=(ai,ci)) (by omega) (s.get (i:=2) rfl)) λhg=>?_;obtain⟨gi,rfl⟩:=hg;refine J.q λ_=>?_;refine J.v (iI x.en.lpn) rfl rfl (λhg a w he hs=>z7 tk rfl rfl he hg rfl rfl (hs.get (i:=2) rfl) (by rw[show 0+(i:Int).toNat*25+0+0=0+(i:Int).toNat*25+0 from rfl,Q3 hx 0 (by decide)];rfl)) ?_;refine J.q λ_=>?_;refine J.v (.bool x.whole) rfl rfl (λhg a w he hs=>z7 tk rfl rfl he hg rfl rfl (hs.get (i:=2) rfl) (by rw[Q3 hx 23 (by decide)];rfl)) ?_;refine J.qd (λ_ h2=>?_) λ_ h2=>?_
  ·rw[d8 h2]at hts;refine J.q λb7=>?_;refine J.v (iI x.en.seq) rfl rfl (λhg a w he hs=>z7 tk rfl rfl he hg rfl rfl (hs.get (i:=2) rfl) (by rw[show 0+(i:Int).toNat*25+0+1=0+(i:Int).toNat*25+1 from rfl,Q3 hx 1 (by decide)];rfl)) ?_;refine J.qn 2 λ_=>?_;rw[c0C,<- hts];refine J.q λ_=>?_;refine J.n (i+1) (by omega) (by omega) [0,1,2]
  ·rw[d7 (by rw[h2];exact s9)]at hts;rw[<- hts];refine J.q λ_=>?_;refine J.n (i+1) (by omega) (by omega) [0,1,2]
 simp only[c8,g6]at h1;obtain rfl:i=ni:=by omega
 obtain⟨t,ht⟩:∃t,a6I I k i=t:=⟨_,rfl⟩;rw[ht];have hk0:a1q H I k t 0=H:=rfl;refine J.q λ_=>?_;refine J.l (α:=(Nat×Option Nat×Nat)) (λz=>z.1<=i) (λz=>[si 9 z.1,si 7 t,sv 0 (slv z.2.1 (a1q H I k t z.1).length z.2.2),sv 1 (slv ai i ci),si 2 k]) [1] (λz=>[l5 3 1 z.2.1 (a1q H I k t z.1).length z.2.2 (n7 (a1q H I k t z.1))]) (λz=>i-z.1) ((0,al,cl)) (j4 _) λz hI=>?_;obtain⟨j,aj,cj⟩:=z;dsimp only at hI ⊢;have hkl:=b5S H I k t j;refine J.qd (λ_ h3=>?_) λ_ h3=>?_
 ·simp only[c9,g6]at h3;obtain⟨x,hx⟩:∃x,I[j]? =some x:=⟨_,d5 (by omega)⟩;have hhs:=b3q H I k t j x hx;refine J.know (λh' s=>u7 (c:=(ai,ci)) (by omega) (s.get (i:=2) rfl)) λhg=>?_;obtain⟨gi,rfl⟩:=hg;refine J.q λ_=>?_;refine J.v (iI x.block) rfl rfl (λhg a w he hs=>z7 tk rfl rfl he hg rfl rfl (hs.get (i:=2) rfl) (by rw[show 0+(j:Int).toNat*25+19+0=0+(j:Int).toNat*25+19 from rfl,Q3 hx 19 (by decide)];rfl)) ?_;refine J.q λ_=>?_;refine J.v (iI x.en.lpn) rfl rfl (λhg a w he hs=>z7 tk rfl rfl he hg rfl rfl (hs.get (i:=2) rfl) (by rw[show 0+(j:Int).toNat*25+0+0=0+(j:Int).toNat*25+0 from rfl,Q3 hx 0 (by decide)];rfl)) ?_;refine J.q λ_=>?_;refine J.v (.bool x.whole) rfl rfl (λhg a w he hs=>z7 tk rfl rfl he hg rfl rfl (hs.get (i:=2) rfl) (by rw[Q3 hx 23 (by decide)];rfl)) ?_;refine J.q λ_=>?_;refine J.v (iI x.en.seq) rfl rfl (λhg a w he hs=>z7 tk rfl rfl he hg rfl rfl (hs.get (i:=2) rfl) (by rw[show 0+(j:Int).toNat*25+0+1=0+(j:Int).toNat*25+1 from rfl,Q3 hx 1 (by decide)];rfl)) ?_;refine J.qd (λ_ h4=>?_) λ_ h4=>?_
  ·have h5:(x.en.lpn==k&&x.whole&&x.en.seq==t)=false:=by
    revert h4
    simp only[bne];cases(x.en.lpn==k)<;>cases x.whole<;>cases(x.en.seq==t)<;>simp
   rw[d7 (by rw[h5];exact s9)]at hhs;rw[<- hhs];refine J.q λ_=>?_;refine J.n ((j+1,aj,cj)) (by dsimp only;omega) (by dsimp only;omega) [0,1,2]
  have h5:(x.en.lpn==k&&x.whole&&x.en.seq==t)=true:=by
   revert h4
   simp only[bne];cases(x.en.lpn==k)<;>cases x.whole<;>cases(x.en.seq==t)<;>simp
  rw[d8 h5]at hhs;obtain⟨M,hM⟩:∃M,M=a1q H I k t j:=⟨_,rfl⟩;rw[<- hM]at hhs hkl ⊢;have hMl:M.length<=200000:=by omega
  refine J.q λ_=>?_;refine J.l (α:=Nat) (λu=>u<=M.length/\∀i',i'<u->M.getD i' 0<x.block) (λu=>[si 11 u,si 10 x.block,si 9 j,si 7 t,sv 0 (slv aj M.length cj),sv 1 (slv (some gi) i ci),si 2 k]) [] (λu=>[]) (λu=>M.length-u) (0) (⟨j4 _,λi' h=>by omega⟩) λu hI=>?_;obtain⟨hu1,hu2⟩:=hI;refine J.qn 2 λ_=>?_;refine J.join (α:=Unit) (λ_=>[⟨90, .bool (decide (u<M.length)&&decide (M.getD u 0<x.block)),0, .tt⟩,si 11 u,si 10 x.block,si 9 j,si 7 t,sv 0 (slv aj M.length cj),sv 1 (slv (some gi) i ci),si 2 k]) (λ_=>[.hp F,l5 3 1 aj M.length cj (n7 M),l5 191 25 (some gi) i ci (y7 I)]) (λhj=>?_) (λ_=>?_)
  ·by_cases hlt:u<M.length
   ·obtain⟨y,hy⟩:∃y,M[u]? =some y:=⟨_,d5 hlt⟩;have hyd:M.getD u 0=y:=by rw[d6,hy];rfl
    refine J.know (λh' s=>u7 (c:=(aj,cj)) (by omega) (s.get (i:=1) rfl)) λhg=>?_;obtain⟨gj,rfl⟩:=hg;refine J.qn 5 λ_=>?_;rw[j3 (by omega:(u:Int)<(M.length:Int))];refine J.q λ_=>?_;refine J.v (iI y) rfl rfl (λhg a w he hs=>z7 tk rfl rfl he rfl rfl rfl (hs.get (i:=1) rfl) (by rw[show 0+(u:Int).toNat*1=u from by omega];exact L5 hy)) ?_;refine J.qn 6 λ_=>?_;exact J.goto [0,1,2] (hj ()) ⟨congrArg (λb=>some (Value.bool b)) (by rw[j3 hlt,hyd]:(true&&decide (y<x.block))=(decide (u<M.length)&&decide (M.getD u 0<x.block))),rfl,rfl,rfl,rfl,rfl,rfl,rfl,trivial⟩ rfl rfl
   ·refine J.qn 5 λ_=>?_;rw[u9 (by omega:¬(u:Int)<(M.length:Int))];have hfin:(false&&decide ((0:Int)<x.block))=(decide (u<M.length)&&decide (M.getD u 0<x.block)):=by rw[u9 hlt];rfl
    rcases aj with _ | gj
    ·refine J.q λ_=>?_;refine J.v (.pointer none) rfl rfl (λhg a w he hs=>by simp[G.on]at hg) ?_;refine J.q λ_=>?_;refine J.v (iI 0) rfl rfl (λhg a w he hs=>by simp[G.on]at hg) ?_;refine J.qn 6 λ_=>?_;exact J.goto [0,1,2] (hj ()) ⟨congrArg (λb=>some (Value.bool b)) hfin,rfl,rfl,rfl,rfl,rfl,rfl,rfl,trivial⟩ rfl rfl
    ·refine J.q λ_=>?_;refine J.v (iI 0) rfl rfl (λhg a w he hs=>by simp[G.on]at hg) ?_;refine J.qn 6 λ_=>?_;exact J.goto [0,1,2] (hj ()) ⟨congrArg (λb=>some (Value.bool b)) hfin,rfl,rfl,rfl,rfl,rfl,rfl,rfl,trivial⟩ rfl rfl
  refine J.qd (λ_ h6=>?_) λ_ h6=>?_
  ·simp only[i9,c9]at h6;refine J.q λ_=>?_;refine J.nS (u+1) (⟨by omega,λi' hi'=>by
    rcases Nat.lt_succ_iff_lt_or_eq.1 hi' with h | h
    ·exact hu2 i' h
    ·rw[h];exact h6.2⟩) (by omega) [0,1,2] rfl rfl
  have hsp:a3n M x.block=u:=by
   refine spot_eq hu2 hu1 ?_;simp only[P9,c8]at h6;rcases h6 with h | h
   ·left;omega
   ·right;exact h
  have hins:=a8d x.block M;rw[hsp]at hins;refine J.qn 3 λ_=>?_;refine J.join (α:=Unit) (λ_=>[⟨104, .bool (decide (u=M.length)||(M.getD u 0 !=x.block)),0, .tt⟩,si 11 u,si 10 x.block,si 9 j,si 7 t,sv 0 (slv aj M.length cj),sv 1 (slv (some gi) i ci),si 2 k]) (λ_=>[.hp F,l5 3 1 aj M.length cj (n7 M),l5 191 25 (some gi) i ci (y7 I)]) (λhj=>?_) (λ_=>?_)
  ·by_cases hlt:u<M.length
   ·obtain⟨y,hy⟩:∃y,M[u]? =some y:=⟨_,d5 hlt⟩;have hyd:M.getD u 0=y:=by rw[d6,hy];rfl
    refine J.know (λh' s=>u7 (c:=(aj,cj)) (by omega) (s.get (i:=1) rfl)) λhg=>?_;obtain⟨gj,rfl⟩:=hg;refine J.qn 5 λ_=>?_;rw[show((u:Int)==(M.length:Int))=false from by rw[j9];omega];refine J.q λ_=>?_;refine J.v (iI y) rfl rfl (λhg a w he hs=>z7 tk rfl rfl he rfl rfl rfl (hs.get (i:=1) rfl) (by rw[show 0+(u:Int).toNat*1=u from by omega];exact L5 hy)) ?_;refine J.qn 6 λ_=>?_;exact J.goto [0,1,2] (hj ()) ⟨congrArg (λb=>some (Value.bool b)) (by rw[u9 (by omega:¬u=M.length),hyd]:(false||(y !=x.block))=(decide (u=M.length)||(M.getD u 0 !=x.block))),rfl,rfl,rfl,rfl,rfl,rfl,rfl,trivial⟩ rfl rfl
   ·refine J.qn 5 λ_=>?_;rw[show((u:Int)==(M.length:Int))=true from by rw[m5];omega];have hfin:(true||((0:Int) !=x.block))=(decide (u=M.length)||(M.getD u 0 !=x.block)):=by rw[j3 (by omega:u=M.length)];rfl
    rcases aj with _ | gj
    ·refine J.q λ_=>?_;refine J.v (.pointer none) rfl rfl (λhg a w he hs=>by simp[G.on]at hg) ?_;refine J.q λ_=>?_;refine J.v (iI 0) rfl rfl (λhg a w he hs=>by simp[G.on]at hg) ?_;refine J.qn 6 λ_=>?_;exact J.goto [0,1,2] (hj ()) ⟨congrArg (λb=>some (Value.bool b)) hfin,rfl,rfl,rfl,rfl,rfl,rfl,rfl,trivial⟩ rfl rfl
    ·refine J.q λ_=>?_;refine J.v (iI 0) rfl rfl (λhg a w he hs=>by simp[G.on]at hg) ?_;refine J.qn 6 λ_=>?_;exact J.goto [0,1,2] (hj ()) ⟨congrArg (λb=>some (Value.bool b)) hfin,rfl,rfl,rfl,rfl,rfl,rfl,rfl,trivial⟩ rfl rfl
  refine J.qd (λ_ h7=>?_) λ_ h7=>?_
  ·have hno:¬M[u]? =some x.block:=by
    intro hc;have h8:u<M.length:=(List.getElem?_eq_some_iff.1 hc).1;rw[d6,hc,u9 (by omega)]at h7;simp at h7
   rw[d7 hno]at hins;rw[hins]at hhs;obtain⟨M',hM'⟩:∃M',M.take u++[x.block]++M.drop u=M':=⟨_,rfl⟩;rw[hM']at hhs;have hul:u<=M.length:=hu1;have hlM:M'.length=M.length+1:=by rw[<- hM',f9,f9,l9,x4];show min u M.length+1+(M.length-u)=M.length+1;omega
   refine J.join (α:=Option Nat×Nat) (λy=>[si 9 j,si 7 t,sv 0 (slv y.1 M'.length y.2),sv 1 (slv (some gi) i ci),si 2 k]) (λy=>[.hp F,l5 3 1 y.1 M'.length y.2 (n7 M'),l5 191 25 (some gi) i ci (y7 I)]) (λhj=>?_) (λy=>?_)
   ·have hsl:∀n c,slv aj n c= .slice (K4 (aj.map λg=>(g,0))) n c:=λn c=>by cases aj<;>rfl
    have hoad:oad aj=K4 (aj.map λg=>(g,0)):=by cases aj<;>rfl
    refine J.know (p:=M.length<=cj/\(aj=none->cj=0)) (λh' s=>by
     have h9:a0E 3 1 aj M.length cj (n7 M) h':=s.get (i:=1) rfl;obtain⟨_,h9⟩:=h9;cases aj with
     | none=>exact⟨by omega,λ_=>h9.2⟩
     | some g=>obtain⟨_,_,h10,_⟩:=h9;exact⟨h10,λh=>by cases h⟩) λhcap=>?_
    refine J.turn1 [] rfl (As:=[l5 3 1 none 0 0 (n7 [])]) (λh s=>Sep.one ⟨rfl,rfl,rfl⟩) rfl ?_;rw[hsl];refine J.qn 1 λ_=>?_;refine J.plan (.take true 0 (.take true 1 (.take true 2 (.take true 4 (.take true 7 (.take true 8 (.take true 9 (.alt false 3 ((.of [22,26,43,44])) (.alt false 5 ((.of [14,26,43,44])) .non))))))))) [10,11] [] (by rw[hX.hP];kernel_rfl) (by kernel_rfl) ?_;refine J.qn 2 λ_=>?_;refine J.vT (.slice (K4 (aj.map λg=>(g,0))) u cj) rfl rfl (λhg aa w he hC=>b6h tk rfl rfl rfl he rfl rfl rfl rfl (by omega)) ?_;refine J.qn 3 λ_=>?_;refine J.vT (.slice (K4 (a1y (aj.map λg=>(g,0)) 1 u cj)) (M.length-u) (cj-u)) rfl rfl (λhg aa w he hC=>a1T tk rfl rfl rfl he rfl rfl rfl rfl rfl hul) ?_;have hc1:K4 (aj.map λg=>(g,0))=none->cj=0:=λh=>hcap.2 (by cases aj with | none=>rfl | some g=>cases h);have hc2:K4 (a1y (aj.map λg=>(g,0)) 1 u cj)=none->cj-u=0:=λh=>by
     have:cj=0:=hcap.2 (by
      cases aj with
      | none=>rfl
      | some g=>
       revert h
       show K4 (if cj=u then some (g,0)else some (g,0+u*1))=none->_;split<;>exactλh=>by cases h)
     omega
    have hR1:Rd (l5 3 1 aj M.length cj (n7 M)) (K4 (aj.map λg=>(g,0))) 1 u (n7 (M.take u)):=by
     have h9:=(R8 3 1 aj M.length cj (n7 M)).take u hul;rw[hoad,show(n7 M).take (u*1)=n7 (M.take u)from by simp[n7]]at h9;exact h9
    have hR2:Rd (l5 3 1 aj M.length cj (n7 M)) (K4 (a1y (aj.map λg=>(g,0)) 1 u cj)) 1 (M.length-u) (n7 (M.drop u)):=by
     by_cases h9:M.length=u
     ·rw[h9,U6,<- h9,List.drop_length];exactλ_ _=>⟨rfl,λh=>absurd h (Nat.lt_irrefl 0)⟩
     ·cases aj with
      | none=>have:=hcap.2 rfl;omega
      | some g=>
       have h10:=(R8 3 1 (some g) M.length cj (n7 M)).drop u hul;rw[show(n7 M).drop (u*1)=n7 (M.drop u)from by simp[n7]]at h10;have h11:K4 (a1y ((some g).map λg=>(g,0)) 1 u cj)=some ⟨g,0+u*1,none⟩:=by
        show K4 (if cj=u then some (g,0)else some (g,0+u*1))=_;rw[d7 (by omega)];rfl
       rw[h11];exact h10
    have hcat:n7 []++n7 (M.take u)++[iI x.block]++n7 (M.drop u)=n7 M':=by
     rw[<- hM'];simp[n7]
    have hnn:0+u+1+(M.length-u)=M'.length:=by omega
    refine J.alts ?_ ?_
    ·refine J.appendAny hX tk (a:=none) (n:=0) (cap:=0) 3 1 hc1 rfl rfl rfl rfl rfl rfl rfl rfl rfl hR1 rfl rfl rfl rfl (a1X _) ?_ ?_ (λ_=>rfl) λa2 c2=>⟨_,rfl,stq,?_⟩
     ·simp only[maxLen];omega
     ·omega
     refine J.qn 1 λb7=>?_;refine J.append hX tk 3 4 0 rfl rfl rfl rfl rfl rfl rfl rfl rfl rfl rfl rfl rfl rfl rfl rfl ?_ ?_ (λ_=>rfl) λa3 c3=>⟨_,rfl,stq,?_⟩
     ·simp only[maxLen];omega
     ·omega
     refine J.appendAny hX tk 3 1 hc2 rfl rfl rfl rfl rfl rfl rfl rfl rfl hR2 rfl rfl rfl rfl (a1X _) ?_ ?_ (λ_=>rfl) λa4 c4=>⟨_,(congr (congrArg (λy z=>Q2 _ 3 (l5 _ _ _ y _ z)) hnn) hcat).trans rfl,stq,?_⟩
     ·simp only[maxLen];omega
     ·omega
     rw[hnn];refine J.qn 2 λ_=>?_;exact J.goto [0,3,2] (hj (a4,c4)) ⟨rfl,rfl,rfl,rfl,rfl,trivial⟩ rfl rfl
    ·refine J.qn 1 λb7=>?_;refine J.appendAny hX tk (a:=none) (n:=0) (cap:=0) 3 1 hc1 rfl rfl rfl rfl rfl rfl rfl rfl rfl hR1 rfl rfl rfl rfl (a1X _) ?_ ?_ (λ_=>rfl) λa2 c2=>⟨_,rfl,stq,?_⟩
     ·simp only[maxLen];omega
     ·omega
     refine J.append hX tk 3 4 0 rfl rfl rfl rfl rfl rfl rfl rfl rfl rfl rfl rfl rfl rfl rfl rfl ?_ ?_ (λ_=>rfl) λa3 c3=>⟨_,rfl,stq,?_⟩
     ·simp only[maxLen];omega
     ·omega
     refine J.appendAny hX tk 3 1 hc2 rfl rfl rfl rfl rfl rfl rfl rfl rfl hR2 rfl rfl rfl rfl (a1X _) ?_ ?_ (λ_=>rfl) λa4 c4=>⟨_,(congr (congrArg (λy z=>Q2 _ 3 (l5 _ _ _ y _ z)) hnn) hcat).trans rfl,stq,?_⟩
     ·simp only[maxLen];omega
     ·omega
     rw[hnn];refine J.qn 2 λ_=>?_;exact J.goto [0,3,2] (hj (a4,c4)) ⟨rfl,rfl,rfl,rfl,rfl,trivial⟩ rfl rfl
   rw[<- hhs];refine J.q λ_=>?_;refine J.n ((j+1,y.1,y.2)) (by dsimp only;omega) (by dsimp only;omega) [0,1,2]
  ·have hyes:M[u]? =some x.block:=by
    simp only[A5,c8,p6]at h7;have h8:u<M.length:=by omega
    rw[<- h7.2,d6,d5 h8];rfl
   rw[d8 hyes]at hins;rw[hins]at hhs;rw[<- hhs];refine J.q λ_=>?_;refine J.n ((j+1,aj,cj)) (by dsimp only;omega) (by dsimp only;omega) [0,1,2]
 simp only[c8,g6]at h3;obtain rfl:j=i:=by omega
 refine J.qr [1,2] λ_=>?_;exact⟨aj,cj,by rw[ht],by rw[ht];rfl⟩
def c3C:List Lk:=[.int .i64, .int .i64, .int .i64, .int .i64, .int .i64, .int .i64]
theorem b7Z:T5 Tryz.prog 100 151=some c3C:=by kernel_rfl
theorem b8R (a:AtV):Fits c3C (atL a):=⟨rfl,rfl,rfl,rfl,rfl,rfl,trivial⟩
theorem c4c (zs:List Value):mkV Tryz.prog 151 zs= .agg zs.toArray:=by simp[mkV,Tryz.underlying151]
theorem c4i:Tryz.prog.eqGuardType Tryz.prog.depth 151=false:=by kernel_rfl
theorem c4l (x y:AtV):C9 (atL x) (atL y)=true↔x=y:=by
 obtain⟨a,b,c,d,e,f⟩:=x;obtain⟨a',b',c',d',e',f'⟩:=y;simp[atL,C9,a1Y,AtV.mk.injEq]
theorem b4h (z:Int):(z !=z)=false:=by simp
theorem c2s (t:Tb) (b i:Int):((Tb.look t.at_ i).isSome&&(((Tb.look t.at_ i).getD AtV.zero).block==b))=Tb.inB t b i:=by
 unfold Tb.inB;cases Tb.look t.at_ i<;>rfl
theorem c2G (q:Nat) (t:Tb) (m:Nat) (hm:m<=65536) (b:Int):FP 143 [pp q,iI b] [b0W q t m]
  (λv As=>∃a c,v=slv a (Tb.inK t b m).length c/\As=[b0W q t m,l5 3 1 a (Tb.inK t b m).length c (n7 (Tb.inK t b m))]):=by
 refine FE [2,0] Tryz.func143 λX F hX=>?_;refine J.o (α:=Nat) 1 λg=>?_;refine J.turn1 [] rfl (As:=[l5 3 1 none 0 0 (n7 [])]) (λh s=>Sep.one ⟨rfl,rfl,rfl⟩) rfl ?_;refine J.q λ_=>?_;refine J.l (α:=(Nat×Option Nat×Nat)) (λz=>z.1<=m) (λz=>[si 6 z.1,sv 5 (slv z.2.1 (Tb.inK t b z.1).length z.2.2),⟨0,pp q,2, .tt⟩,si 1 b]) [3] (λz=>[l5 3 1 z.2.1 (Tb.inK t b z.1).length z.2.2 (n7 (Tb.inK t b z.1))]) (λz=>m-z.1) ((0,none,0)) (j4 _) λz hI=>?_;obtain⟨i,ao,co⟩:=z;dsimp only at hI ⊢;have his:=Tb.inK_succ t b i;have hil:=Tb.inK_len t b i;refine J.qd (λ_ h1=>?_) λ_ h1=>?_
 ·simp only[c9,g6]at h1;have hc0:=a2D t.at_ h1 0 (by decide);have hc1:=a2D t.at_ h1 1 (by decide);refine J.q λ_=>?_;refine J.v (.bool (Tb.look t.at_ (i:Nat)).isSome) rfl rfl (λhg a w he hs=>x9 tk rfl rfl he hg rfl rfl (hs.get (i:=2) rfl) (by rw[show 0+(i:Int).toNat*7+0=i*7+0 from by omega,hc0];rfl)) ?_;refine J.q λ_=>?_;refine J.v (iI ((Tb.look t.at_ (i:Nat)).getD AtV.zero).block) rfl rfl (λhg a w he hs=>x9 tk rfl rfl he hg rfl rfl (hs.get (i:=2) rfl) (by rw[show 0+(i:Int).toNat*7+1+0=i*7+1 from by omega,hc1];rfl)) ?_;refine J.qn 3 λ_=>?_;rw[c2s];refine J.qd (λ_ h2=>?_) λ_ h2=>?_
  ·rw[d8 h2]at his;refine J.q λ_=>?_;refine J.append hX tk 3 4 0 rfl rfl rfl rfl rfl rfl rfl rfl rfl rfl rfl rfl rfl rfl rfl rfl ?_ ?_ (λ_=>rfl) λa2 c2=>⟨_,(congrArg (λy=>Q2 _ 3 (l5 _ _ _ _ _ y)) (U9 _ (i:Int)).symm).trans rfl,trivial,?_⟩
   ·simp only[maxLen];omega
   ·omega
   rw[show(Tb.inK t b i).length+1=(Tb.inK t b (i+1)).length from by rw[his];simp,<- his];refine J.q λ_=>?_;refine J.n ((i+1,a2,c2)) (by dsimp only;omega) (by dsimp only;omega) [0,1,2,3]
  ·rw[d7 (by rw[h2];exact s9)]at his;rw[<- his];refine J.q λ_=>?_;refine J.n ((i+1,ao,co)) (by dsimp only;omega) (by dsimp only;omega) [0,1,2,3]
 simp only[c8,g6]at h1;obtain rfl:i=m:=by omega
 refine J.q λ_=>?_;refine J.cl (λg:Nat=>b2B q t i g) g [1,2] ?_;refine J.qr [1,3] λ_=>?_;exact⟨ao,co,rfl,rfl⟩
def a4M (l:List (Int×AtV)) (k:Nat):Nat:=(List.range k).countP λi:Nat=>(Tb.look l (i:Int)).isSome
theorem b6i (l:List (Int×AtV)) (k:Nat):a4M l (k+1)=a4M l k+(if(Tb.look l (k:Int)).isSome then 1 else 0):=by
 unfold a4M;rw[t6,a2w,List.countP_singleton]
theorem c1j (l:List (Int×AtV)) (k:Nat):a4M l k<=k:=by
 unfold a4M;have:=a0L (p:=λi:Nat=>(Tb.look l (i:Int)).isSome) (l:=List.range k)
 rwa [D9]at this
theorem Tb.Ok.out {t:Tb} (h:t.Ok) {k:Int} (hk:k<0\/t.logical<=k):Tb.look t.at_ k=none:=by
 rw[Tb.look_none];intro hm;obtain⟨x,hx,rfl⟩:=List.mem_map.1 hm;have:=h.rng x hx;omega
def c3z:List Lk:=[.int .i64, .int .i64, .int .i64]
theorem b7Y:T5 Tryz.prog 100 149=some c3z:=by kernel_rfl
theorem b8Q (b r s:Int):Fits c3z (plL b r s):=⟨rfl,rfl,rfl,trivial⟩
theorem c4b (zs:List Value):mkV Tryz.prog 149 zs= .agg zs.toArray:=by simp[mkV,Tryz.underlying149]
theorem c4h:Tryz.prog.eqGuardType Tryz.prog.depth 149=false:=by kernel_rfl
theorem c4k (b r s:Int):C9 (plL b r s) (plL b r s)=true:=by simp[plL,C9,a1Y]
theorem a8P (q1 q:Nat) (t:Tb) (m:Nat) (hm:m<=65536) (hok:t.Ok) (hlog:t.logical=(m:Int)):FP 79 [pp q1,pp q,iI 16] [TbA q1 t,b0W q t m]
  (λv As=>v= .bool true/\As=[TbA q1 t,b0W q t m]):=by
 refine FE [2,3,0] Tryz.func79 λX F hX=>?_;refine J.o (α:=Nat) 2 λg=>?_;refine J.q λ_=>?_;refine J.l (α:=Nat) (λi=>i<=m) (λi=>[si 8 i,si 7 (a4M t.at_ i),⟨0,pp q1,2, .tt⟩,⟨1,pp q,3, .tt⟩,si 2 16]) [] (λi=>[]) (λi=>m-i) (0) (j4 _) λi hI=>?_;have hcs:=b6i t.at_ i;have hcl:=c1j t.at_ i;refine J.qd (λ_ h1=>?_) λ_ h1=>?_
 ·simp only[c9,g6]at h1;have hc:=b6V t.at_ h1;refine J.qp (a2W q1 t i) [1] λ_=>?_;refine J.q λ_=>?_;refine J.v (.agg (stL (Tb.look t.at_ (i:Nat))).toArray) rfl rfl (λhg a w he hs=>C7 tk rfl rfl he hg rfl rfl (hs.get (i:=3) rfl) (by rw[show 0+(i:Int).toNat*7=i*7 from by omega];exact hc) rfl) ?_;cases ho:Tb.look t.at_ (i:Nat)with
  | none=>
   rw[ho]at hcs;have hcs:a4M t.at_ (i+1)=a4M t.at_ i:=hcs;refine J.q λ_=>?_;refine J.v (.bool false) rfl rfl (λhg a w he hs=>by simp[G.on]at hg) ?_;refine J.q λ_=>?_;refine J.v (.bool false) rfl rfl (λhg aa w he hw=>(a2H (xs:=atL AtV.zero) (ys:=atL AtV.zero) rfl rfl rfl he rfl rfl b7Z (b8R _) (b8R _) c4c c4i).trans (by rw[(c4l _ _).2 rfl];rfl)) ?_;refine J.qF λ_=>?_;refine J.qF λ_=>?_;rw[<- hcs];refine J.q λ_=>?_;refine J.n (i+1) (by omega) (by omega) [0,1,2,3]
  | some x=>
   rw[ho]at hcs;have hcs:a4M t.at_ (i+1)=a4M t.at_ i+1:=hcs;obtain⟨xb,xr,xl,xm,xs,xo⟩:=x;refine J.q λ_=>?_;refine J.v (.bool false) rfl rfl (λhg aa w he hw=>(a2H (xs:=plL xb xr xl) (ys:=plL xb xr xl) rfl rfl rfl he hg hg b7Y (b8Q _ _ _) (b8Q _ _ _) c4b c4h).trans (by rw[c4k];rfl)) ?_;refine J.q λ_=>?_;refine J.v (.bool false) rfl rfl (λhg a w he hs=>by simp[G.on]at hg) ?_;refine J.qF λ_=>?_;refine J.qT λ_=>?_;refine J.q λ_=>?_;rw[show((a4M t.at_ i:Nat):Int)+1=((a4M t.at_ (i+1):Nat):Int)from by omega];refine J.q λ_=>?_;refine J.n (i+1) (by omega) (by omega) [0,1,2,3]
 simp only[c8,g6]at h1;obtain rfl:i=m:=by omega
 refine J.cl (λg:Nat=>b2B q t i g) g [2,3] ?_;refine J.q λ_=>?_;refine J.l (α:=Int) (λb=> -1<=b/\b<=17) (λb=>[si 12 b,si 7 (a4M t.at_ i),⟨0,pp q1,2, .tt⟩,⟨1,pp q,3, .tt⟩,si 2 16]) [] (λb=>[]) (λb=>(17-b).toNat) (-1) (⟨Int.le_refl _,by decide⟩) λb hI=>?_;refine J.qd (λ_ h2=>?_) λ_ h2=>?_
 ·have h2:b<=16:=A7 h2;have hins:t.ins b=Tb.inK t b i:=by rw[hok.ins,hlog,l6]
  have hcnt:=hok.inK_len b;rw[hlog,l6]at hcnt;have hil:=Tb.inK_len t b i;refine J.qc (b3P q1 t i hlog hm b) [1] λ_=>?_;rintro v As ⟨a1,c1,rfl,rfl⟩;refine⟨_,rfl,trivial,?_⟩;rw[hins];refine J.qc (c2G q t i hm b) [2] λ_=>?_;rintro v As ⟨a2,c2,rfl,rfl⟩;refine⟨_,rfl,trivial,?_⟩;generalize Tb.inK t b i=W at hcnt hil;refine J.qn 11 λ_=>?_;rw[b4h (W.length:Int)];refine J.qp (X5 q1 t b) [1] λ_=>?_;rw[<- hcnt];refine J.qn 3 λ_=>?_;rw[b4h (W.length:Int)];refine J.qF λ_=>?_;refine J.q λ_=>?_;refine J.l (α:=Nat) (λj=>j<=W.length) (λj=>[si 15 j,sv 13 (slv a1 W.length c1),sv 14 (slv a2 W.length c2),si 12 b,si 7 (a4M t.at_ i),⟨0,pp q1,2, .tt⟩,⟨1,pp q,3, .tt⟩,si 2 16]) [] (λj=>[]) (λj=>W.length-j) (0) (j4 _) λj hI=>?_;refine J.qd (λ_ h3=>?_) λ_ h3=>?_
  ·simp only[c9,g6]at h3;obtain⟨y,hy⟩:∃y,W[j]? =some y:=⟨_,d5 h3⟩;refine J.know (p:=∃g,a1=some g) (λh' s=>u7 (c:=(a1,c1)) (by omega) (s.get (i:=4) rfl)) λhg=>?_;obtain⟨g1,rfl⟩:=hg;refine J.know (p:=∃g,a2=some g) (λh' s=>u7 (c:=(a2,c2)) (by omega) (s.get (i:=5) rfl)) λhg=>?_;obtain⟨g2,rfl⟩:=hg;refine J.pq (.of [0,4,8,13,16,20,24,29,32]) [] [4,5] λ_ _=>?_;refine J.vT (iI y) rfl rfl (λhg aa w he hC=>z7 tk rfl rfl he rfl rfl rfl (hC rfl _ (r8 (i:=4) rfl)) (by rw[show 0+(j:Int).toNat*1=j from by omega];exact L5 hy)) ?_;refine J.q λ_=>?_;refine J.vT (iI y) rfl rfl (λhg aa w he hC=>z7 tk rfl rfl he rfl rfl rfl (hC rfl _ (r8 (i:=5) rfl)) (by rw[show 0+(j:Int).toNat*1=j from by omega];exact L5 hy)) ?_;refine J.qF λ_=>?_;refine J.q λ_=>?_;refine J.n (j+1) (by omega) (by omega) [0,1,2,3,4,5]
  refine J.q λ_=>?_;refine J.n (b+1) (⟨by omega,by omega⟩) (by omega) [0,1,2,3]
 have hb:b=17:=by have:=a5A h2;omega
 subst hb;have hn1:=hok.out (k:= -1) (.inl (by decide));have hn2:=hok.out (k:=(i:Int)) (.inr (by rw[hlog];exact Int.le_refl _));have hlen:=hok.at_len;rw[hlog,l6]at hlen;have hlen:t.at_.length=a4M t.at_ i:=hlen;refine J.qp (a2W q1 t (-1)) [1] λ_=>?_;rw[hn1];refine J.o (α:=Nat) 2 λg=>?_;refine J.qp (a2W q1 t i) [1] λ_=>?_;rw[hn2];refine J.cl (λg:Nat=>b2B q t i g) g [2,4] ?_;refine J.qp (b2L q1 t) [1] λ_=>?_;rw[hlen];refine J.qr [1,2] λ_=>?_;refine⟨?_,rfl⟩;show Value.bool _=Value.bool true;simp
end Go.Proofs.YtpakpgkdpofbhaaGreat
