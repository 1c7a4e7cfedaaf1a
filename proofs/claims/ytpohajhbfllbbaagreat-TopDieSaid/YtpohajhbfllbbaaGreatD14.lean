/- Helpers. No condition. -/
import Derived.Test.YtpohajhbfllbbaaGreatD06
import Derived.Test.YtpohajhbfllbbaaGreatD12
import Derived.Test.YtpohajhbfllbbaaGreatD13
set_option maxRecDepth 20000
set_option linter.all false
namespace Go.Proofs.YtpohajhbfllbbaaGreat
open Go Go.RowKit
def fnL (x:Fnd):List Value:=[iI x.en.lpn,iI x.en.seq,iI x.en.role,byC x.en.data 0,byC x.en.data 1,byC x.en.data 2,byC x.en.data 3,byC x.en.data 4,byC x.en.data 5,byC x.en.data 6,byC x.en.data 7,byC x.en.data 8,byC x.en.data 9,byC x.en.data 10,byC x.en.data 11,byC x.en.data 12,byC x.en.data 13,byC x.en.data 14,byC x.en.data 15,
 iI x.block,iI x.row,iI x.slot,iI x.mask, .bool x.whole, .bool x.mended]
def j5 (l:List Fnd):List Value:=l.flatMap fnL
theorem a5E (x:Fnd):(fnL x).length=25:=rfl
theorem C1 (l:List Fnd):(j5 l).length=l.length*25:=by
 induction l with
 | nil=>rfl
 | cons x l ih=>simp only[j5,List.flatMap_cons,List.length_append,List.length_cons]at ih ⊢;rw[ih,a5E];omega
theorem X6 (l:List Fnd) (x:Fnd):j5 (l++[x])=j5 l++fnL x:=by simp[j5]
theorem O9:∀{l:List Fnd} {k:Nat} {x:Fnd},l[k]? =some x->((j5 l).drop (k*25)).take 25=fnL x
 | [],_,_,h=>by simp at h
 | y::l,0,x,h=>by
  simp at h;subst h;rw[Nat.zero_mul,List.drop_zero];exact List.take_left' (a5E y)
 | y::l,k+1,x,h=>by
  have:=O9 (l:=l) (k:=k) (x:=x) (by simpa using h);rw[show(k+1)*25=25+k*25 from by omega,<- List.drop_drop];simp only[j5,List.flatMap_cons];rw[List.drop_left' (a5E y)];exact this
theorem a5K (x:Int):∀l:List Int,(r9 x l).length<=l.length
 | []=>Nat.le_refl _
 | y::l=>by
  unfold r9;split
  ·have h:=a5K y l;exact Nat.le_trans h (by simp)
  ·have h:=a5K y l;simpa using h
theorem a6X:∀l:List Int,(n7 l).length<=l.length
 | []=>Nat.le_refl _
 | x::l=>by have h:=a5K x l;simpa[n7]using h
theorem a4s (N:Nand) (b r:Int):(M.masks N b r).length<=N.dies:=by
 unfold M.masks;refine Nat.le_trans (a6X _) ?_;rw[O3];refine Nat.le_trans (List.length_filterMap_le _ _) ?_;simp[M.rowN]
def a0x (N:Nand) (b r:Int) (i:Nat):List Fnd:=((M.masks N b r).take i).flatMap (R.allM N b r)
def Q6 (N:Nand) (b r mk:Int) (i j:Nat):List Fnd:=a0x N b r i++(List.range j).filterMap (R.fnd (R.look N b r mk) b r mk)
theorem b2Y (N:Nand) (b r m:Int):(R.allM N b r m).length<=7:=by
 unfold R.allM;refine Nat.le_trans (List.length_filterMap_le _ _) ?_;rw[List.length_range,(K0 N b r m).1];have:=H4 m;omega
theorem a2M (N:Nand) (b r:Int) (i:Nat) (h:N.dies<=6):(a0x N b r i).length<=42:=by
 have h1:∀l:List Int,(l.flatMap (R.allM N b r)).length<=7*l.length:=by
  intro l
  induction l with
  | nil=>simp
  | cons x l ih=>rw[List.flatMap_cons,List.length_append,List.length_cons];have:=b2Y N b r x;omega
 have h2:=h1 ((M.masks N b r).take i);have h3:=a4s N b r;have h4:((M.masks N b r).take i).length<=6:=by rw[List.length_take];omega
 unfold a0x;omega
theorem b1A (N:Nand) (b r mk:Int) (i j:Nat) (h:N.dies<=6) (hj:j<=7):(Q6 N b r mk i j).length<=49:=by
 have h1:=a2M N b r i h;have h2:=List.length_filterMap_le (R.fnd (R.look N b r mk) b r mk) (List.range j);rw[List.length_range]at h2;unfold Q6;rw[List.length_append];omega
theorem a9r (N:Nand) (b r mk:Int) (i:Nat):Q6 N b r mk i 0=a0x N b r i:=by simp[Q6]
theorem a9s (N:Nand) (b r mk:Int) (i j:Nat):Q6 N b r mk i (j+1)=Q6 N b r mk i j++(R.fnd (R.look N b r mk) b r mk j).toList:=by
 unfold Q6;rw[List.range_succ,List.filterMap_append,List.append_assoc];congr 2
theorem b1B (N:Nand) (b r mk:Int) (i:Nat) (h:(M.masks N b r)[i]? =some mk):Q6 N b r mk i (G.slots mk).toNat=a0x N b r (i+1):=by
 unfold Q6 a0x;rw[List.take_add_one,h,Option.toList_some,List.flatMap_append];congr 1;rw[List.flatMap_cons,List.flatMap_nil,List.append_nil,R.allM,(K0 N b r mk).1]
theorem b4M (p:Nat) (N:Nand) (hN:N.Ok) (hR:N.Room) (b r:Int):FP 112 [pp p,iI b,iI r] [i5 p N]
  (λv As=>∃a c,v=slv a (R.all N b r).length c/\As=[i5 p N,c9 190 25 a (R.all N b r).length c (j5 (R.all N b r))]):=by
 have hbd:=hN.bd;have hml:=a4s N b r;refine FE [2,0,0] Tryz.func112 λX F hX=>?_;refine J.qc (a8A p N hN hR b r) [1] λ_=>?_;rintro v As ⟨am,cm,rfl,rfl⟩;refine⟨_,rfl,trivial,?_⟩;refine J.turn1 [] rfl (As:=[c9 190 25 none 0 0 (j5 (a0x N b r 0))]) (λh s=>Sep.one ⟨rfl,rfl,rfl⟩) rfl ?_;refine J.q λ_=>?_;refine J.l (α:=(Nat×Option Nat×Nat)) (λz=>z.1<=(M.masks N b r).length) (λz=>[si 20 z.1,⟨19,iI (M.masks N b r).length,0, .tt⟩,sv 18 (slv am (M.masks N b r).length cm),sv 7 (slv z.2.1 (a0x N b r z.1).length z.2.2),⟨0,pp p,2, .tt⟩,si 1 b,si 2 r]) [3] (λz=>[c9 190 25 z.2.1 (a0x N b r z.1).length z.2.2 (j5 (a0x N b r z.1))]) (λz=>(M.masks N b r).length-z.1) ((0,none,0)) (Nat.zero_le _) λz hI=>?_;obtain⟨i,ao,co⟩:=z;dsimp only at hI ⊢;refine J.qd (λ_ h1=>?_) λ_ h1=>?_
 ·simp only[decide_eq_true_eq,Int.ofNat_lt]at h1;refine J.know (λh' s=>i9 (c:=(am,cm)) (by omega) (s.get (i:=2) rfl)) λhg=>?_;obtain⟨gm,rfl⟩:=hg;obtain⟨mk,hmk⟩:∃mk,(M.masks N b r)[i]? =some mk:=⟨_,List.getElem?_eq_getElem h1⟩;refine J.q λ_=>?_;refine J.v (iI mk) rfl rfl (λhg a w he hw=>?_) ?_
  ·exact j9 tk rfl rfl he rfl rfl rfl (hw.get (i:=2) rfl) (by rw[show 0+(i:Int).toNat*1=i from by omega];exact a3t hmk)
  have hsb:=H4 mk;have hlen:=K0 N b r mk;have hdat:=R4 hN b r mk;refine J.q λb7=>?_;refine J.cb (b1m p N hN hR b r mk) [1] ?_;rintro v As ⟨a1,c1,a2,c2,rfl,rfl⟩;refine⟨_,rfl,trivial,?_⟩;have hfnd:∀j,R.fnd (R.look N b r mk) b r mk j=if R.okAt (R.look N b r mk) j&&(R.enAt (R.look N b r mk) j).role !=3 then some ⟨R.enAt (R.look N b r mk) j,b,r,j,mk,(R.look N b r mk).whole,!((R.look N b r mk).good.getD j false)⟩else none:=λj=>rfl
  have hout:=a9s N b r mk i;have hz:=a9r N b r mk i;have hall:=b1B N b r mk i hmk;have hol:∀j,j<=7->(Q6 N b r mk i j).length<=49:=λj hj=>b1A N b r mk i j (by omega) hj;have hnb:(G.slots mk).toNat<=7:=by omega
  rw[<- hz];generalize hf:R.look N b r mk=f at hlen hdat hfnd hout;generalize hn:(G.slots mk).toNat=n at hlen hall hnb;refine J.q λbbf=>?_;refine J.l (α:=(Nat×Option Nat×Nat)) (λz=>z.1<=n) (λz=>[si 32 z.1,si 31 n,sv 30 (slv a1 n c1),⟨10,pp (bbf 0),7, .tt⟩,si 9 mk,si 20 i,⟨19,iI (M.masks N b r).length,0, .tt⟩,sv 18 (slv (some gm) (M.masks N b r).length cm),sv 7 (slv z.2.1 (Q6 N b r mk i z.1).length z.2.2),⟨0,pp p,2, .tt⟩,si 1 b,si 2 r]) [3] (λz=>[c9 190 25 z.2.1 (Q6 N b r mk i z.1).length z.2.2 (j5 (Q6 N b r mk i z.1))]) (λz=>n-z.1) ((0,ao,co)) (Nat.zero_le _) λz hI=>?_;obtain⟨j,ao,co⟩:=z;dsimp only at hI ⊢;refine J.qd (λ_ h2=>?_) λ_ h2=>?_
  ·simp only[decide_eq_true_eq,Int.ofNat_lt]at h2;refine J.know (λh' s=>i9 (c:=(a1,c1)) (by omega) (s.get (i:=4) rfl)) λhg=>?_;obtain⟨g1,rfl⟩:=hg;refine J.know (λh' s=>i9 (c:=(a2,c2)) (by omega) (s.get (i:=5) rfl)) λhg=>?_;obtain⟨g2,rfl⟩:=hg;obtain⟨s,hs⟩:∃s,f.slots[j]? =some s:=⟨_,List.getElem?_eq_getElem (by omega)⟩;obtain⟨gk,hgd⟩:∃g,f.good[j]? =some g:=⟨_,List.getElem?_eq_getElem (by omega)⟩;have hgk:f.good.getD j false=gk:=by rw[List.getD_eq_getElem?_getD,hgd,Option.getD_some]
   have hsk:f.slots.getD j Sh.zero=s:=by rw[List.getD_eq_getElem?_getD,hs,Option.getD_some]
   refine J.q λ_=>?_;refine J.v (shV s) rfl rfl (λhg a w he hw=>?_) ?_
   ·exact n8 tk rfl rfl he rfl rfl rfl (hw.get (i:=4) rfl) (by rw[show 0+(j:Int).toNat*23=j*23 from by omega];exact U7 hs) rfl
   obtain⟨bb,hbb⟩:∃x,bbf 0=x:=⟨_,rfl⟩;rw[hbb];refine J.p (.take false 0 (.take true 2 (.take false 3 (.take true 4 (.take true 5 (.take false 6 (.alt false 1 ((.of [30,34,36])) (.alt false 7 ((.of [6,34,36])) .non)))))))) [9] [5,6,7] λ_=>?_;refine J.join (α:=Nat) (λx=>[sv 14 (.bool gk),⟨13,pp x,8, .tt⟩,si 11 j,si 32 j,si 31 n,sv 30 (slv (some g1) n c1),⟨10,pp bb,7, .tt⟩,si 9 mk,si 20 i,⟨19,iI (M.masks N b r).length,0, .tt⟩,sv 18 (slv (some gm) (M.masks N b r).length cm),sv 7 (slv ao (Q6 N b r mk i j).length co),⟨0,pp p,2, .tt⟩,si 1 b,si 2 r]) (λx=>[.hp F,i5 p N,c9 3 1 (some gm) (M.masks N b r).length cm (f8 (M.masks N b r)),c9 190 25 ao (Q6 N b r mk i j).length co (j5 (Q6 N b r mk i j)),c9 219 23 (some g1) n c1 (m7 f.slots),c9 4 1 (some g2) n c2 (H0 f.good), .pt bb 221 (fdL (some g1) c1 (some g2) c2 n f.parity f.whole), .pt x 135 (enL s.en)]) (λhj=>?_) (λx=>?_)
   ·skip
    refine J.qn 5 λ_=>?_;refine J.vT (.bool gk) rfl rfl (λ_ a w he hC=>j9 tk rfl rfl he rfl rfl rfl (hC rfl _ (i7 (i:=5) rfl)) (by rw[show 0+(j:Int).toNat*1=j from by omega];exact U9 hgd)) ?_;refine J.alts ?_ ?_
    ·skip
     refine J.qp (a5k s) [] λ_=>?_;refine J.qn 1 λb7=>?_;refine J.qn 3 λ_=>?_;exact J.goto [0,1,2,3,4,5,6,8] (hj (b7 0)) ⟨rfl,rfl,rfl,rfl,rfl,rfl,rfl,rfl,rfl,rfl,rfl,rfl,rfl,rfl,rfl,trivial⟩ rfl rfl
    ·skip
     refine J.qn 1 λb7=>?_;refine J.qp (a5k s) [] λ_=>?_;refine J.qn 3 λ_=>?_;exact J.goto [0,1,2,3,4,5,6,8] (hj (b7 0)) ⟨rfl,rfl,rfl,rfl,rfl,rfl,rfl,rfl,rfl,rfl,rfl,rfl,rfl,rfl,rfl,trivial⟩ rfl rfl
   refine J.q λ_=>?_;refine J.join (α:=Unit) (λ_=>[sv 14 (.bool (R.okAt f j)),⟨13,pp x,8, .tt⟩,si 11 j,si 32 j,si 31 n,sv 30 (slv (some g1) n c1),⟨10,pp bb,7, .tt⟩,si 9 mk,si 20 i,⟨19,iI (M.masks N b r).length,0, .tt⟩,sv 18 (slv (some gm) (M.masks N b r).length cm),sv 7 (slv ao (Q6 N b r mk i j).length co),⟨0,pp p,2, .tt⟩,si 1 b,si 2 r]) (λ_=>[.hp F,i5 p N,c9 3 1 (some gm) (M.masks N b r).length cm (f8 (M.masks N b r)),c9 190 25 ao (Q6 N b r mk i j).length co (j5 (Q6 N b r mk i j)),c9 219 23 (some g1) n c1 (m7 f.slots),c9 4 1 (some g2) n c2 (H0 f.good), .pt bb 221 (fdL (some g1) c1 (some g2) c2 n f.parity f.whole), .pt x 135 (enL (R.enAt f j))]) (λhj=>?_) (λ_=>?_)
   ·refine J.qd (λ_ h3=>?_) λ_ h3=>?_
    ·simp only[Bool.not_eq_true']at h3;subst h3;refine J.qp (a6o f n (by omega) hlen.1 hlen.2 hdat.1 hdat.2 (some g1) (some g2) c1 c2 j) [4,5] λ_=>?_;rw[show R.okAt f j=R.mendB f j from by rw[R.okAt,hgk];rfl,show R.enAt f j=R.mend f j from by rw[R.enAt,hgk];rfl]at hj;refine J.qn 6 λ_=>?_;exact J.goto [0,1,2,3,4,5,6,7] (hj ()) ⟨rfl,rfl,rfl,rfl,rfl,rfl,rfl,rfl,rfl,rfl,rfl,rfl,rfl,rfl,rfl,trivial⟩ rfl rfl
    ·simp only[Bool.not_eq_false']at h3;subst h3;rw[show R.okAt f j=true from by rw[R.okAt,hgk];rfl,show R.enAt f j=s.en from by rw[R.enAt,hgk,if_pos rfl,hsk]]at hj;refine J.qn 1 λ_=>?_;exact J.goto [0,1,2,3,4,5,6,7] (hj ()) ⟨rfl,rfl,rfl,rfl,rfl,rfl,rfl,rfl,rfl,rfl,rfl,rfl,rfl,rfl,rfl,trivial⟩ rfl rfl
   have hf1:=hfnd j;have ho1:=hout j;have hol1:=hol j (by omega);generalize R.okAt f j=ok at hf1;generalize R.enAt f j=e at hf1;refine J.qd (λ_ h4=>?_) λ_ h4=>?_
   ·rw[if_pos h4,hgk]at hf1;rw[hf1,Option.toList_some]at ho1;have hsl:(Q6 N b r mk i j).length+1=(Q6 N b r mk i (j+1)).length:=by rw[ho1,List.length_append];rfl
    refine J.pn 14 (.of [0,5,8,12,16,20,24,28,33,36,41,44,48,53,56,60,66,70,72]) [18] [5,6,7] λ_ _=>?_;refine J.vT (.bool gk) rfl rfl (λ_ a w he hC=>j9 tk rfl rfl he rfl rfl rfl (hC rfl _ (i7 (i:=5) rfl)) (by rw[show 0+(j:Int).toNat*1=j from by omega];exact U9 hgd)) ?_;refine J.q λ_=>?_;refine J.ap 3 8 0 ((X6 _ _).symm.trans (congrArg j5 ho1.symm)) λa4 c4=>?_;rw[hsl];refine J.q λ_=>?_;rw[<- hbb];refine J.q λ_=>?_;refine J.n ((j+1,a4,c4)) (by dsimp only;omega) (by dsimp only;omega) [0,1,2,3,4,5,6]
   ·rw[if_neg (by rw[h4];exact Bool.false_ne_true)]at hf1;rw[hf1,Option.toList_none,List.append_nil]at ho1;rw[<- ho1];refine J.q λ_=>?_;rw[<- hbb];refine J.q λ_=>?_;refine J.n ((j+1,ao,co)) (by dsimp only;omega) (by dsimp only;omega) [0,1,2,3,4,5,6]
  ·simp only[decide_eq_false_iff_not,Int.ofNat_lt]at h2;obtain rfl:j=n:=by omega
   rw[hall];refine J.q λ_=>?_;refine J.n ((i+1,ao,co)) (by dsimp only;omega) (by dsimp only;omega) [0,1,2,3]
 ·simp only[decide_eq_false_iff_not,Int.ofNat_lt]at h1;obtain rfl:i=(M.masks N b r).length:=by omega
  have:a0x N b r (M.masks N b r).length=R.all N b r:=by unfold a0x R.all;rw[List.take_length]
  rw[this];refine J.qr [1,3] λ_=>?_;exact⟨ao,co,rfl,rfl⟩
theorem b2z (b r:Int) {mm:Nat}:∀(q:List (Int×Sh)) (N:Nand) (f:Int) (k:Nat),(∀x∈q,x.2.data.length=16)->N.Gd (q.length+k) mm->(R.go b r q N f).1.Gd k mm
 | [],N,f,k,_,h=>by rw[R.go];exact h.less (by simp) (Nat.le_refl _)
 | (d,s)::q,N,f,k,hd,h=>by
  have h1:(N.progN d b r (D2 s)).Gd (q.length+k) mm:=Nand.Gd.prog (h.less (by rw[List.length_cons];omega) (Nat.le_refl _)) d b r _ (W6 s (hd (d,s) (by simp)));have hd':∀x∈q,x.2.data.length=16:=λx hx=>hd x (by simp[hx]);rw[R.go];split
  ·exact b2z b r q _ _ k hd' h1
  ·split
   ·exact h1.less (by omega) (Nat.le_refl _)
   ·exact b2z b r q _ _ k hd' h1
theorem b2g {b r m:Int} {l:List En} (hd:∀s∈l,s.data.length=16):∀x∈R.job b r m l,x.2.data.length=16:=by
 intro x hx;simp only[R.job,List.mem_append,List.mem_map,List.mem_range,List.mem_singleton]at hx;rcases hx with⟨k,hk,rfl⟩ | rfl
 ·refine hd _ ?_;rw[List.getD_eq_getElem?_getD,List.getElem?_eq_getElem hk];exact List.getElem_mem _
 ·exact R9 (λt ht=>by obtain⟨e,he,rfl⟩:=List.mem_map.1 ht;exact hd e he) _ rfl
theorem M7 {b r m:Int} {l:List En} (h:W.parB b r m l=true):(l.length:Int)=G.slots m/\1<=l.length/\l.length<=7/\∀e∈l,W.ok b r m e=true:=by
 simp only[W.parB,Bool.and_eq_true,decide_eq_true_eq,List.all_eq_true]at h;have:=H4 m;refine⟨h.1.1,?_,by omega,h.2⟩;cases l with
 | nil=>simp at h
 | cons x l=>simp
theorem a0m {N:Nand} {b r m:Int} {l:List En} {k mm:Nat} (hd:∀s∈l,s.data.length=16) (h:N.Gd (8+k) mm):(R.write N b r m l).1.Gd k mm:=by
 unfold R.write;split
 ·rename_i hB;have:=M7 hB;exact b2z b r _ _ _ k (b2g hd) (h.less (by rw[a5z];omega) (Nat.le_refl _))
 ·exact h.less (by omega) (Nat.le_refl _)
theorem a5C (b r:Int):∀(q:List (Int×Sh)) (N:Nand) (f:Int),N.Like (R.go b r q N f).1
 | [],N,f=>by rw[R.go];exact Nand.Like.refl N
 | (d,s)::q,N,f=>by
  rw[R.go];split
  ·exact(Nand.like_prog _ _ _ _ _).trans (a5C b r q _ _)
  ·split
   ·exact Nand.like_prog _ _ _ _ _
   ·exact(Nand.like_prog _ _ _ _ _).trans (a5C b r q _ _)
theorem a7j (N:Nand) (b r m:Int) (l:List En):N.Like (R.write N b r m l).1:=by
 unfold R.write;split
 ·exact a5C b r _ _ _
 ·exact Nand.Like.refl N
end Go.Proofs.YtpohajhbfllbbaaGreat
namespace Go.Proofs.YtpohajhbfllbbaaGreat
namespace Tl
def clean (t:Tl) (k:Int) (on:Bool):Tl:=t.set k {t.at_ k with used:=!on}
def hold (t:Tl) (k:Int) (on:Bool):Tl:=t.set k {t.at_ k with held:=on}
def die (t:Tl) (d:Int):Tl:=if t.hasDie d=true then⟨t.d,t.b,t.p,t.l,L.with_ t.dead d⟩else t
end Tl
def En.pad:En:=⟨0,0,3,zeros16⟩
structure Dv where
 N:Nand
 t:Tl
 T:Tb
 op:Int
 row:Int
 mask:Int
 next:Int
namespace Dv
def pick (S:Dv):Int:=E7 (λx y=>B4 (S.t.wear x) (S.t.wear y)) (f6 (y0 S.t S.T) S.op S.t.b)
def left (S:Dv):Bool:=decide (S.op>=0)&&decide (S.row<S.N.pages)&&decide (G.slots S.mask>0)
def slots (S:Dv):Int:=if S.left then G.slots S.mask else G.slots (S.t.mask S.pick)
def opened (S:Dv):Dv:={S with t:=S.t.clean S.pick false,op:=S.pick,row:=0,mask:=(S.t.clean S.pick false).mask S.pick}
def lose (f:Int) (S:Dv) (d:Nat):Dv:=
 if L.has f d then
  {S with t:=if S.N.deadAt d then S.t.die d else S.t.bad d S.op,mask:=L.without S.mask d}
 else S
def loses (S:Dv) (f:Int):Dv:=(List.range S.N.dies).foldl (lose f) S
def numAt (l:List En) (next:Int) (k:Nat):En:=if k<l.length then {l.getD k En.zero with seq:=next+k}else En.pad
def num (l:List En) (next:Int) (n:Nat):List En:=(List.range n).map (numAt l next)
def puts (T:Tb) (b r m:Int) (es:List En) (k:Nat):Tb:=(List.range k).foldl (λT (i:Nat)=>T.put (es.getD i En.zero) b r i m) T
def fit (S:Dv) (l:List En):Nat:=min l.length (G.slots S.mask).toNat
def es (S:Dv) (l:List En):List En:=num l S.next (G.slots S.mask).toNat
def wr (S:Dv) (l:List En):Nand×Int×Int:=R.write S.N S.op S.row S.mask (S.es l)
def wrote (S:Dv) (l:List En):Dv:={S with N:=(S.wr l).1,row:=S.row+1,next:=S.next+S.fit l}
def write:Nat->Dv->List En->Dv×Int×Int
 | 0,S,_=>(S,0,0)
 | k+1,S,l=>
  if l.length=0 then(S,0,0)
  else if S.left=false/\S.pick<0 then(S,0,11)
  else
   let S1:=if S.left then S else S.opened
   if S1.next>1099511627775-(S1.fit l:Int)+1 then(S1,0,11)
   else if(S1.wr l).2.2=1 then({S1 with next:=S1.next+S1.fit l,N:=(S1.wr l).1},0,1)
   else if(S1.wr l).2.2=0 then({S1.wrote l with T:=puts S1.T S1.op S1.row S1.mask (S1.es l) (S1.fit l)},S1.fit l,0)
   else if(S1.wr l).2.2=9 then(S1.wrote l,0,9)
   else write k ((S1.wrote l).loses (S1.wr l).2.1) l
def fuel:Nat:=160
def pen (S:Dv) (l:List En):Dv×Int×Int:=write fuel S l
def rd (S:Dv) (i:Int):En×Int:=
 let a:=(Tb.look S.T.at_ i).getD AtV.zero
 let x:=R.read S.N a.block a.row a.slot a.mask
 if x.2=9 then(En.zero,9)
 else if x.2≠0\/x.1.lpn≠i\/x.1.seq≠a.seq then(⟨i,0,4,zeros16⟩,0)
 else(x.1,0)
def rds (S:Dv):List Int->List En×Int
 | []=>([],0)
 | i::l=>if(S.rd i).2≠0 then([],(S.rd i).2)else((S.rd i).1::(rds S l).1,(rds S l).2)
def carryGo:Nat->Dv->List Int->Int->Dv×Int×Int
 | 0,S,_,done=>(S,done,0)
 | k+1,S,l,done=>
  if l.length=0 then(S,done,0)
  else
   let r:=S.rds (l.take (max S.slots 1).toNat)
   if r.2≠0 then(S,done,r.2)
   else
    let w:=S.pen r.1
    if w.2.2≠0 then(w.1,done+w.2.1,w.2.2)
    else carryGo k w.1 (l.drop w.2.1.toNat) (done+w.2.1)
def carry (S:Dv) (b most:Int):Dv×Int×Int:=
 let l:=(S.T.ins b).take (max most 0).toNat
 carryGo l.length S l 0
def eraseD (b m:Int) (x:Nand×Tl×Int) (d:Nat):Nand×Tl×Int:=
 if x.2.2≠0 then x
 else if L.has m d=false then x
 else
  let e:=x.1.eraseE d b
  (x.1.eraseN d b,if e=0 then x.2.1 else if e=9 then x.2.1 else if e=8 then x.2.1.die d else x.2.1.bad d b,if e=9 then 9 else 0)
def eraseB (N:Nand) (t:Tl) (b:Int):Nand×Tl×Int:=(List.range N.dies).foldl (eraseD b (t.mask b)) (N,t,0)
def wores (N:Nand) (t:Tl) (b:Int):Tl:=(List.range N.dies).foldl (λt (d:Nat)=>t.wore b (N.wornAt d b)) t
def eraseT (N:Nand) (t:Tl) (b:Int):Tl:=if(wores N t b).usable b then(wores N t b).clean b true else wores N t b
def erase (N:Nand) (t:Tl) (b:Int):Nand×Tl×Int:=
 let x:=eraseB N t b
 if x.2.2≠0 then x else(x.1,eraseT x.1 x.2.1 b,0)
def clearGo:List Int->Nand->Tl->Nand×Tl×Int
 | [],N,t=>(N,t,0)
 | b::l,N,t=>
  let x:=erase N t b
  if x.2.2≠0 then x else clearGo l x.1 x.2.1
def clearX (N:Nand) (t:Tl) (T:Tb) (o:Int):Nand×Tl×Int:=clearGo (f6 (j4 t T) o t.b) N t
def clear(S:Dv):Dv×Int:=
 let x:=clearX S.N S.t S.T S.op
 ({S with N:=x.1,t:=x.2.1},x.2.2)
def victim (S:Dv):Int:=E7 (λx y=>orI [B4 (S.T.count x) (S.T.count y),B4 (S.t.wear x) (S.t.wear y)]) (f6 (A6 S.t S.T) S.op S.t.b)
def free (S:Dv):Nat:=(f6 (y0 S.t S.T) S.op S.t.b).length
def roomGo:Nat->Dv->Dv×Int
 | 0,S=>(S,0)
 | k+1,S=>
  if(S.free:Int)>4 then(S,0)
  else if S.victim<0\/S.T.count S.victim>=S.t.p*G.slots (S.t.mask S.victim)then(S,0)
  else
   let c:=S.carry S.victim (S.T.count S.victim)
   if c.2.2≠0 then(c.1,c.2.2)
   else
    let d:=c.1.clear
    if d.2≠0 then d else roomGo k d.1
def room (S:Dv):Dv×Int:=if S.clear.2≠0 then S.clear else roomGo S.t.b S.clear.1
def hurts (S:Dv):List Int:=f6 (I8 S.t S.T) (-1) S.t.b
def leftN (S:Dv):Int:=(S.hurts.map S.T.count).sum
def seeDead (N:Nand) (t:Tl):Tl:=(List.range t.d).foldl (λt (d:Nat)=>if N.deadAt d then t.die d else t) t
def seen (S:Dv):Dv:={S with t:=seeDead S.N S.t}
def step (S:Dv) (most:Int):Dv×Int×Int:=
 let r:=S.seen.room
 if r.2≠0 then(r.1,0,r.2)
 else match r.1.hurts with
  | []=>(r.1,0,0)
  | b::_=>r.1.carry b most
def tornGo:Nat->Dv->List En->Dv×Int
 | 0,S,_=>(S,0)
 | k+1,S,l=>
  if l.length=0 then(S,0)
  else
   let r:=S.room
   if r.2≠0 then r
   else
    let w:=r.1.pen l
    if w.2.2≠0 then(w.1,w.2.2)else tornGo k w.1 (l.drop w.2.1.toNat)
def torn (S:Dv) (l:List En):Dv×Int:=tornGo l.length S l
end Dv
end Go.Proofs.YtpohajhbfllbbaaGreat
namespace Go.Proofs.YtpohajhbfllbbaaGreat
theorem a4j (f:Int->Int->Int):∀(l:List Int) (m:Int),L7 f l m=m\/L7 f l m∈l
 | [],m=> .inl rfl
 | x::l,m=>by
  rw[L7];rcases a4j f l (if f x m<0 then x else m)with h | h
  ·rw[h];split
   ·exact .inr (List.mem_cons_self ..)
   ·exact .inl rfl
  ·exact .inr (List.mem_cons_of_mem _ h)
theorem a1v (f:Int->Int->Int) {l:List Int} (h:l≠[]):E7 f l∈l:=by
 cases l with
 | nil=>exact absurd rfl h
 | cons x l=>
  rcases a4j f l x with e | e
  ·show L7 f l x∈_;rw[e];exact List.mem_cons_self ..
  ·exact List.mem_cons_of_mem _ e
theorem mem_pkSome {kind:Int->Bool} {o x:Int} {n:Nat}:x∈f6 kind o n↔0<=x/\x<n/\x≠o/\kind x=true:=by
 simp only[f6,List.mem_map,List.mem_filter,List.mem_range,Bool.and_eq_true,bne_iff_ne,ne_eq];constructor
 ·rintro⟨k,⟨h1,h2,h3⟩,rfl⟩;exact⟨by omega,by omega,h2,h3⟩
 ·rintro⟨h1,h2,h3,h4⟩;obtain⟨k,rfl⟩:=Int.eq_ofNat_of_zero_le h1;exact⟨k,⟨by omega,h3,h4⟩,rfl⟩
theorem a4l (f:Int->Int->Int) (kind:Int->Bool) (o:Int) (n:Nat):(E7 f (f6 kind o n)= -1/\f6 kind o n=[])\/(E7 f (f6 kind o n)∈f6 kind o n/\0<=E7 f (f6 kind o n)):=by
 by_cases h:f6 kind o n=[]
 ·left;rw[h];exact⟨rfl,rfl⟩
 ·right;have:=a1v f h;exact⟨this,(mem_pkSome.1 this).1⟩
structure Tl.Fit (t:Tl) (N:Nand):Prop where
 d:t.d=N.dies
 b:t.b=N.blocks
 p:t.p=N.pages
 len:t.l.length=t.b
namespace Tl
theorem set_len (t:Tl) (k:Int) (s:Sb):(t.set k s).l.length=t.l.length:=by unfold set;split<;>simp
theorem Fit.set {t:Tl} {N:Nand} (h:t.Fit N) (k:Int) (s:Sb):(t.set k s).Fit N:=
 ⟨by rw[set_d];exact h.d,by rw[set_b];exact h.b,by rw[set_p];exact h.p,by rw[set_len,set_b];exact h.len⟩
theorem Fit.wore {t:Tl} {N:Nand} (h:t.Fit N) (k n:Int):(t.wore k n).Fit N:=h.set _ _
theorem Fit.clean {t:Tl} {N:Nand} (h:t.Fit N) (k:Int) (on:Bool):(t.clean k on).Fit N:=h.set _ _
theorem Fit.hold {t:Tl} {N:Nand} (h:t.Fit N) (k:Int) (on:Bool):(t.hold k on).Fit N:=h.set _ _
theorem Fit.bad {t:Tl} {N:Nand} (h:t.Fit N) (d k:Int):(t.bad d k).Fit N:=by unfold Tl.bad;split;(· exact h.set _ _);exact h
theorem Fit.die {t:Tl} {N:Nand} (h:t.Fit N) (d:Int):(t.die d).Fit N:=by unfold Tl.die;split;(· exact⟨h.d,h.b,h.p,h.len⟩);exact h
theorem Fit.like {t:Tl} {N N':Nand} (h:t.Fit N) (l:N.Like N'):t.Fit N':=⟨h.d.trans l.dies.symm,h.b.trans l.blocks.symm,h.p.trans l.pages.symm,h.len⟩
def blanks (t:Tl):Nat:=t.l.countP λs=>!s.used
theorem countP_set {α:Type} (p:α->Bool) (x y:α):∀(l:List α) (k:Nat),l[k]? =some x->(l.set k y).countP p+(if p x then 1 else 0)=l.countP p+(if p y then 1 else 0)
 | [],k,h=>by simp at h
 | z::l,0,h=>by
  simp only[List.getElem?_cons_zero,Option.some.injEq]at h;subst h;simp only[List.set_cons_zero,List.countP_cons];omega
 | z::l,k+1,h=>by
  have:=countP_set p x y l k (by simpa using h);simp only[List.set_cons_succ,List.countP_cons];omega
theorem blanks_same {t:Tl} (hl:t.l.length=t.b) (k:Int) (s:Sb) (h:s.used=(t.at_ k).used):(t.set k s).blanks=t.blanks:=by
 unfold set blanks;split
 ·rename_i hh;have:=countP_set (λs:Sb=>!s.used) (t.at_ k) s t.l k.toNat (get_at hl hh);dsimp only;rw[h]at this;omega
 ·rfl
theorem blanks_bad {t:Tl} (hl:t.l.length=t.b) (d k:Int):(t.bad d k).blanks=t.blanks:=by
 unfold Tl.bad;split
 ·exact blanks_same hl _ _ rfl
 ·rfl
theorem blanks_die (t:Tl) (d:Int):(t.die d).blanks=t.blanks:=by unfold Tl.die;split<;>rfl
theorem blanks_open {t:Tl} (hl:t.l.length=t.b) {k:Int} (h:t.blank k=true):(t.clean k false).blanks+1=t.blanks:=by
 simp only[blank,Bool.and_eq_true,Bool.not_eq_true']at h;have:=countP_set (λs:Sb=>!s.used) (t.at_ k) {t.at_ k with used:=!false} t.l k.toNat (get_at hl h.1);unfold clean set blanks;rw[if_pos h.1];simp only[h.2]at this;simpa using this
theorem blanks_le {t:Tl} (hl:t.l.length=t.b):t.blanks<=t.b:=by unfold blanks;rw[<- hl];exact List.countP_le_length
end Tl
structure Dv.Ok (S:Dv) (k m:Nat):Prop where
 gd:S.N.Gd k m
 t:S.t.Fit S.N
 T:S.T.Ok
 sl:∀x∈S.T.at_,0<=x.2.slot/\x.2.slot<=1000
 row:0<=S.row/\S.row<=8
 next:1<=S.next/\S.next<=1099511627776
theorem Nand.Ok.bd16 {N:Nand} (h:N.Ok):(3<=N.dies/\N.dies<=6)/\(8<=N.blocks/\N.blocks<=16)/\(2<=N.pages/\N.pages<=8):=by
 have:=h.geo;simp[t6]at this;omega
theorem Tb.put_slot {T:Tb} {e:En} {b r s m:Int} (h:∀x∈T.at_,0<=x.2.slot/\x.2.slot<=1000) (hs:0<=s/\s<=1000):∀x∈(T.put e b r s m).at_,0<=x.2.slot/\x.2.slot<=1000:=by
 have key:∀(l:List (Int×AtV)) (k:Int) (v:AtV),(∀x∈l,0<=x.2.slot/\x.2.slot<=1000)->(0<=v.slot/\v.slot<=1000)->∀x∈Tb.put1 l k v,0<=x.2.slot/\x.2.slot<=1000:=by
  intro l k v
  induction l with
  | nil=>intro _ hv x hx;simp[Tb.put1]at hx;subst hx;exact hv
  | cons y l ih=>
   intro hl hv x hx;simp only[Tb.put1]at hx;split at hx
   ·rcases List.mem_cons.1 hx with rfl | hx
    ·exact hv
    ·exact hl x (List.mem_cons_of_mem _ hx)
   ·rcases List.mem_cons.1 hx with rfl | hx
    ·exact hl _ (List.mem_cons_self ..)
    ·exact ih (λz hz=>hl z (List.mem_cons_of_mem _ hz)) hv x hx
 unfold Tb.put;split
 ·exact key _ _ _ h hs
 ·exact h
namespace Dv
variable {S : Dv} {k m : Nat}
theorem Ok.less (h:S.Ok k m) {k':Nat} (hk:k'<=k):S.Ok k' m:=⟨h.gd.less hk (Nat.le_refl _),h.t,h.T,h.sl,h.row,h.next⟩
theorem slots_le (x:Int):0<=G.slots x/\G.slots x<=7:=by
 have:=L.count_le x;unfold G.slots;split<;>omega
theorem num_len (l:List En) (next:Int) (n:Nat):(num l next n).length=n:=by simp[num]
theorem es_len (S:Dv) (l:List En):(S.es l).length=(G.slots S.mask).toNat:=num_len _ _ _
theorem getD_data {l:List En} (hd:∀s∈l,s.data.length=16) {i:Nat} (h:i<l.length):(l.getD i En.zero).data.length=16:=by
 rw[List.getD_eq_getElem?_getD,List.getElem?_eq_getElem h];exact hd _ (List.getElem_mem _)
theorem num_data {l:List En} (hd:∀s∈l,s.data.length=16) (next:Int) (n:Nat):∀s∈num l next n,s.data.length=16:=by
 intro s hs;simp only[num,List.mem_map]at hs;obtain⟨i,_,rfl⟩:=hs;unfold numAt;split
 ·rename_i h;exact getD_data hd h
 ·rfl
theorem fit_le (S:Dv) (l:List En):S.fit l<=7/\S.fit l<=l.length/\(S.fit l:Int)<=G.slots S.mask:=by
 have:=slots_le S.mask;unfold fit;omega
theorem lose_N (f:Int) (S:Dv) (d:Nat):(lose f S d).N=S.N/\(lose f S d).T=S.T/\(lose f S d).op=S.op/\(lose f S d).row=S.row/\(lose f S d).next=S.next:=by
 unfold lose;split<;>exact⟨rfl,rfl,rfl,rfl,rfl⟩
theorem lose_t (f:Int) (S:Dv) (d:Nat) (h:S.t.Fit S.N):(lose f S d).t.Fit S.N/\(lose f S d).t.blanks=S.t.blanks:=by
 unfold lose;split
 ·dsimp only;split
  ·exact⟨h.die _,Tl.blanks_die _ _⟩
  ·exact⟨h.bad _ _,Tl.blanks_bad h.len _ _⟩
 ·exact⟨h,rfl⟩
theorem foldl_lose (f:Int):∀(q:List Nat) (S:Dv),(S.t.Fit S.N)->(q.foldl (lose f) S).N=S.N/\(q.foldl (lose f) S).T=S.T/\(q.foldl (lose f) S).op=S.op/\(q.foldl (lose f) S).row=S.row/\(q.foldl (lose f) S).next=S.next/\(q.foldl (lose f) S).t.Fit S.N/\(q.foldl (lose f) S).t.blanks=S.t.blanks
 | [],S,h=>⟨rfl,rfl,rfl,rfl,rfl,h,rfl⟩
 | d::q,S,h=>by
  obtain⟨e1,e2,e3,e4,e5⟩:=lose_N f S d;have ht:=lose_t f S d h;have ih:=foldl_lose f q (lose f S d) (by rw[e1];exact ht.1);rw[List.foldl_cons];rw[e1,e2,e3,e4,e5,ht.2]at ih;exact ih
theorem loses_same (S:Dv) (f:Int) (h:S.t.Fit S.N):(S.loses f).N=S.N/\(S.loses f).T=S.T/\(S.loses f).op=S.op/\(S.loses f).row=S.row/\(S.loses f).next=S.next/\(S.loses f).t.Fit S.N/\(S.loses f).t.blanks=S.t.blanks:=foldl_lose f _ S h
theorem Ok.loses (h:S.Ok k m) (f:Int):(S.loses f).Ok k m:=by
 obtain⟨e1,e2,_,e4,e5,e6,_⟩:=loses_same S f h.t;exact⟨by rw[e1];exact h.gd,by rw[e1];exact e6,by rw[e2];exact h.T,by rw[e2];exact h.sl,by rw[e4];exact h.row,by rw[e5];exact h.next⟩
theorem pick_spec (S:Dv):S.pick= -1\/(0<=S.pick/\S.pick<S.t.b/\S.pick≠S.op/\y0 S.t S.T S.pick=true):=by
 rcases a4l (λx y=>B4 (S.t.wear x) (S.t.wear y)) (y0 S.t S.T) S.op S.t.b with h | h
 ·exact .inl h.1
 ·exact .inr (mem_pkSome.1 h.1)
theorem pick_blank {S:Dv} (h:¬S.pick<0):S.t.blank S.pick=true:=by
 rcases S.pick_spec with e | ⟨_,_,_,e⟩
 ·omega
 ·simp only[y0,Bool.and_eq_true]at e;exact e.1.2
theorem Ok.opened (h:S.Ok k m):S.opened.Ok k m:=⟨h.gd,h.t.clean _ _,h.T,h.sl,by show(0:Int)<=0/\(0:Int)<=8;omega,h.next⟩
theorem puts_ok {T:Tb} (h:T.Ok) (hs:∀x∈T.at_,0<=x.2.slot/\x.2.slot<=1000) (b r mk:Int) (es:List En):∀n,n<=1000->(puts T b r mk es n).Ok/\(∀x∈(puts T b r mk es n).at_,0<=x.2.slot/\x.2.slot<=1000)/\(puts T b r mk es n).logical=T.logical
 | 0,_=>⟨h,hs,rfl⟩
 | n+1,hn=>by
  have ih:=puts_ok h hs b r mk es n (by omega);have e:puts T b r mk es (n+1)=(puts T b r mk es n).put (es.getD n En.zero) b r (n:Nat) mk:=by unfold puts;rw[List.range_succ,List.foldl_append];rfl
  rw[e];exact⟨ih.1.put _ _ _ _ _,Tb.put_slot ih.2.1 (by omega),by rw[Tb.put_logical];exact ih.2.2⟩
theorem puts_succ (T:Tb) (b r mk:Int) (es:List En) (n:Nat):puts T b r mk es (n+1)=(puts T b r mk es n).put (es.getD n En.zero) b r (n:Nat) mk:=by unfold puts;rw[List.range_succ,List.foldl_append];rfl
def mu (S:Dv):Nat:=9*S.t.blanks+(if S.left then(S.N.pages-S.row).toNat else 0)
theorem mu_le (h:S.Ok k m):S.mu<=152:=by
 have h1:=Tl.blanks_le h.t.len;have h2:=h.gd.ok.bd16;have h3:=h.t.b;have h4:=h.row;unfold mu;split<;>omega
theorem left_spec (h:S.left=true):0<=S.op/\S.row<S.N.pages/\0<G.slots S.mask:=by
 simp only[left,Bool.and_eq_true,decide_eq_true_eq]at h;omega
def at1 (S:Dv):Dv:=if S.left then S else S.opened
theorem Ok.at1 (h:S.Ok k m):S.at1.Ok k m:=by unfold Dv.at1;split;(· exact h);exact h.opened
theorem at1_like (S:Dv):S.at1.N=S.N/\S.at1.T=S.T/\S.at1.next=S.next:=by unfold at1;split<;>exact⟨rfl,rfl,rfl⟩
theorem usable_slots {t:Tl} {b:Int} (h:t.usable b=true):0<G.slots (t.mask b):=by simpa[Tl.usable]using h
theorem mask_clean {t:Tl} (hl:t.l.length=t.b) (k:Int) (on:Bool) (j:Int):(t.clean k on).mask j=t.mask j:=by
 unfold Tl.clean Tl.mask Tl.alive;have e1:(t.set k {t.at_ k with used:=!on}).has j=t.has j:=by unfold Tl.has;rw[Tl.set_b]
 rw[e1,Tl.set_d,Tl.set_dead];split
 ·rename_i hj;congr 1;unfold Tl.set;split
  ·rename_i hk;unfold Tl.at_;dsimp only
   by_cases e:k.toNat=j.toNat
   ·simp only[Tl.has,Bool.and_eq_true,decide_eq_true_eq]at hk hj;have:k=j:=by omega
    subst this;rw[List.getD_eq_getElem?_getD,List.getElem?_set_self (by omega)];rfl
   ·rw[List.getD_eq_getElem?_getD,List.getElem?_set_ne e,<- List.getD_eq_getElem?_getD]
  ·rfl
 ·rfl
theorem at1_left (h:S.Ok k m) (h0:¬(S.left=false/\S.pick<0)):S.at1.left=true/\S.at1.op<S.N.blocks\/S.left=true:=by
 unfold at1;cases hl:S.left with
 | true=>exact .inr rfl
 | false=>
  left;rw[if_neg Bool.false_ne_true];have hp:¬S.pick<0:=λe=>h0 ⟨hl,e⟩;rcases S.pick_spec with e | ⟨e1,e2,_,e4⟩
  ·omega
  ·have hb:=h.gd.ok.bd16;have htb:=h.t.b;simp only[y0,Bool.and_eq_true]at e4;have hu:=usable_slots e4.1.1;refine⟨?_,by show S.pick<_;omega⟩;have g1:S.opened.op=S.pick:=rfl;have g2:S.opened.row=0:=rfl;have g3:S.opened.mask=S.t.mask S.pick:=mask_clean h.t.len _ _ _;have g4:S.opened.N=S.N:=rfl;unfold left;rw[g1,g2,g3,g4,decide_eq_true (by omega),decide_eq_true (by omega),decide_eq_true (by omega)];rfl
theorem at1_left' (h:S.Ok k m) (h0:¬(S.left=false/\S.pick<0)):S.at1.left=true:=by
 rcases at1_left h h0 with e | e
 ·exact e.1
 ·unfold at1;rw[if_pos e];exact e
theorem mu_at1 (h:S.Ok k m) (h0:¬(S.left=false/\S.pick<0)):S.at1.mu<=S.mu:=by
 unfold at1;cases hl:S.left with
 | true=>rw[if_pos rfl];exact Nat.le_refl _
 | false=>
  rw[if_neg Bool.false_ne_true];have hp:¬S.pick<0:=λe=>h0 ⟨hl,e⟩;have h1:=Tl.blanks_open h.t.len (pick_blank hp);have h2:=h.gd.ok.bd16;have e1:S.opened.t.blanks=(S.t.clean S.pick false).blanks:=rfl;have e2:S.opened.N.pages=S.N.pages:=rfl;have e3:S.opened.row=0:=rfl;unfold mu;rw[e1,e2,e3,hl];split<;>simp only[Bool.false_eq_true,if_false]<;>omega
theorem wr_gd (h:S.Ok (8+k) m) {l:List En} (hd:∀s∈l,s.data.length=16):(S.wr l).1.Gd k m:=a0m (num_data hd _ _) h.gd
theorem wr_like (S:Dv) (l:List En):S.N.Like (S.wr l).1:=a7j _ _ _ _ _
theorem Ok.wrote (h:S.Ok (8+k) m) {l:List En} (hd:∀s∈l,s.data.length=16) (hr:S.row<S.N.pages) (hn:¬S.next>1099511627775-(S.fit l:Int)+1):(S.wrote l).Ok k m:=by
 have h1:=h.gd.ok.bd16;have h2:=h.row;have h3:=h.next;exact⟨wr_gd h hd,h.t.like (S.wr_like l),h.T,h.sl,by show 0<=S.row+1/\S.row+1<=8;omega,by show 1<=S.next+(S.fit l:Int)/\S.next+(S.fit l:Int)<=1099511627776;omega⟩
theorem mu_wrote (h:S.Ok (8+k) m) (hl:S.left=true) (l:List En) (f:Int):((S.wrote l).loses f).mu<S.mu:=by
 have ht:(S.wrote l).t.Fit (S.wrote l).N:=h.t.like (S.wr_like l);obtain⟨e1,_,_,e4,_,_,e7⟩:=loses_same (S.wrote l) f ht;have hs:=left_spec hl;have hp:=(S.wr_like l).pages;unfold mu;rw[e7,e1,e4,hl];have e8:(S.wrote l).row=S.row+1:=rfl;have e9:(S.wrote l).N.pages=S.N.pages:=hp;have e10:(S.wrote l).t=S.t:=rfl;rw[e8,e9,e10,if_pos rfl];split<;>omega
theorem write_succ (f:Nat) (S:Dv) (l:List En):write (f+1) S l=(if l.length=0 then(S,0,0)else if S.left=false/\S.pick<0 then(S,0,11)else if S.at1.next>1099511627775-(S.at1.fit l:Int)+1 then(S.at1,0,11)else if(S.at1.wr l).2.2=1 then({S.at1 with next:=S.at1.next+S.at1.fit l,N:=(S.at1.wr l).1},0,1)else if(S.at1.wr l).2.2=0 then({S.at1.wrote l with T:=puts S.at1.T S.at1.op S.at1.row S.at1.mask (S.at1.es l) (S.at1.fit l)},S.at1.fit l,0)else if(S.at1.wr l).2.2=9 then(S.at1.wrote l,0,9)else write f ((S.at1.wrote l).loses (S.at1.wr l).2.1) l:Dv×Int×Int):=rfl
theorem write_keep:∀(f:Nat) (S:Dv) (l:List En) (k:Nat),S.Ok (8*f+k) m->(∀s∈l,s.data.length=16)->(write f S l).1.Ok k m/\S.N.Like (write f S l).1.N/\(write f S l).1.T.logical=S.T.logical
 | 0,S,l,k,h,hd=>⟨h.less (by omega),Nand.Like.refl _,rfl⟩
 | f+1,S,l,k,h,hd=>by
  rw[write_succ];have ha:=at1_like S;have h1:S.at1.Ok (8+(8*f+k)) m:=h.at1.less (by omega);split
  ·exact⟨h.less (by omega),Nand.Like.refl _,rfl⟩
  split
  ·exact⟨h.less (by omega),Nand.Like.refl _,rfl⟩
  rename_i h0;split
  ·exact⟨h1.less (by omega),by rw[ha.1];exact Nand.Like.refl _,by rw[ha.2.1]⟩
  rename_i hn;have hlf:=at1_left' h h0;have hs:=left_spec hlf;have hw:=h1.wrote hd hs.2.1 hn;have hlk:S.N.Like (S.at1.wr l).1:=by have:=S.at1.wr_like l;rw[ha.1]at this;exact this
  split
  ·exact⟨⟨hw.gd.less (by omega) (Nat.le_refl _),hw.t,h1.T,h1.sl,h1.row,hw.next⟩,hlk,by show S.at1.T.logical=_;rw[ha.2.1]⟩
  split
  ·have hp:=puts_ok h1.T h1.sl S.at1.op S.at1.row S.at1.mask (S.at1.es l) (S.at1.fit l) (by have:=fit_le S.at1 l;omega);exact⟨⟨hw.gd.less (by omega) (Nat.le_refl _),hw.t,hp.1,hp.2.1,hw.row,hw.next⟩,hlk,by show(puts _ _ _ _ _ _).logical=_;rw[hp.2.2,ha.2.1]⟩
  split
  ·exact⟨hw.less (by omega),hlk,by show S.at1.T.logical=_;rw[ha.2.1]⟩
  ·have ho:=hw.loses (S.at1.wr l).2.1;have hsm:=loses_same (S.at1.wrote l) (S.at1.wr l).2.1 hw.t;have ih:=write_keep f _ l k ho hd;refine⟨ih.1,?_,?_⟩
   ·have:=ih.2.1;rw[hsm.1]at this;exact hlk.trans this
   ·rw[ih.2.2,hsm.2.1];show S.at1.T.logical=_;rw[ha.2.1]
theorem pen_keep (h:S.Ok (8*fuel+k) m) {l:List En} (hd:∀s∈l,s.data.length=16):(S.pen l).1.Ok k m/\S.N.Like (S.pen l).1.N/\(S.pen l).1.T.logical=S.T.logical:=write_keep fuel S l k h hd
theorem write_took:∀(f:Nat) (S:Dv) (l:List En) (k:Nat),S.Ok (8*f+k) m->(∀s∈l,s.data.length=16)->S.mu<f->(write f S l).2.2=0->l.length≠0->1<=(write f S l).2.1/\(write f S l).2.1<=l.length/\(write f S l).2.1<=7
 | 0,S,l,k,h,hd,hm,h0,hl=>by omega
 | f+1,S,l,k,h,hd,hm,h0,hl=>by
  rw[write_succ]at h0 ⊢;rw[if_neg hl]at h0 ⊢;split at h0
  ·cases h0
  rename_i hp;rw[if_neg hp];split at h0
  ·cases h0
  rename_i hn;rw[if_neg hn];have hlf:=at1_left' h hp;have hs:=left_spec hlf;have h1:S.at1.Ok (8+(8*f+k)) m:=h.at1.less (by omega);split at h0
  ·cases h0
  rename_i e1;rw[if_neg e1];split at h0
  ·rename_i e2;rw[if_pos e2];have:=fit_le S.at1 l;have h2:1<=S.at1.fit l:=by unfold fit;omega
   dsimp only;omega
  rename_i e2;rw[if_neg e2];split at h0
  ·cases h0
  rename_i e3;rw[if_neg e3];have h3:=mu_at1 h hp;have h4:=mu_wrote h1 hlf l (S.at1.wr l).2.1;have hw:=h1.wrote hd hs.2.1 hn;exact write_took f _ l k (hw.loses _) hd (by omega) h0 hl
theorem pen_took (h:S.Ok (8*fuel+k) m) {l:List En} (hd:∀s∈l,s.data.length=16) (h0:(S.pen l).2.2=0) (hl:l.length≠0):1<=(S.pen l).2.1/\(S.pen l).2.1<=l.length/\(S.pen l).2.1<=7:=
 write_took fuel S l k h hd (by have:=mu_le h;unfold fuel;omega) h0 hl
end Dv
end Go.Proofs.YtpohajhbfllbbaaGreat
namespace Go.Proofs.YtpohajhbfllbbaaGreat
namespace Bt
theorem byte_bit:∀b0 b1 b2 b3 b4 b5 b6 b7:Bool,∀i:Fin 8,(b0.toNat*128+b1.toNat*64+b2.toNat*32+b3.toNat*16+b4.toNat*8+b5.toNat*4+b6.toNat*2+b7.toNat).testBit (7-i.1)=[b0,b1,b2,b3,b4,b5,b6,b7].getD i.1 false:=by decide+kernel
theorem byte_bit2 (b0 b1 b2 b3 b4 b5 b6 b7:Bool) (i:Nat) (hi:i<8):(b0.toNat*128+b1.toNat*64+b2.toNat*32+b3.toNat*16+b4.toNat*8+b5.toNat*4+b6.toNat*2+b7.toNat).testBit (7-i)=[b0,b1,b2,b3,b4,b5,b6,b7].getD i false:=byte_bit b0 b1 b2 b3 b4 b5 b6 b7 ⟨i,hi⟩
theorem byteAt_bit (l:List Bool) (q i:Nat) (hi:i<8):(byteAt l q).testBit (7-i)=l.getD (q+i) false:=by
 unfold byteAt;rw[byte_bit2 _ _ _ _ _ _ _ _ i hi]
 match i,hi with
 | 0,_=>rfl
 | 1,_=>rfl
 | 2,_=>rfl
 | 3,_=>rfl
 | 4,_=>rfl
 | 5,_=>rfl
 | 6,_=>rfl
 | 7,_=>rfl
theorem bitAt_pack (l:List Bool) (j:Nat) (h:j<l.length):bitAt (pack l) j=l.getD j false:=by
 have h1:(pack l).getD (j/8) 0=UInt8.ofNat (byteAt l (8*(j/8))):=by
  rw[List.getD_eq_getElem?_getD,pack_get l (j/8) (by omega)];rfl
 have h2:(UInt8.ofNat (byteAt l (8*(j/8)))).toNat=byteAt l (8*(j/8)):=by
  rw[UInt8.toNat_ofNat',Nat.mod_eq_of_lt (byteAt_lt l _)]
 unfold bitAt;rw[h1,h2,byteAt_bit l _ _ (Nat.mod_lt _ (by omega)),Nat.div_add_mod]
theorem numAt_eq (b:List UInt8) (k w u:Nat) (h:∀i<w,bitAt b (k+i)=u.testBit (w-1-i)):∀v,v<=w->numAt b k v=u/2^(w-v) % 2^v
 | 0,_=>by simp[numAt,Nat.mod_one]
 | v+1,hv=>by
  rw[numAt,numAt_eq b k w u h v (by omega),h v (by omega),Nat.testBit_eq_decide_div_mod_eq];have e1:w-v=(w-1-v)+1:=by omega
  have e2:w-(v+1)=w-1-v:=by omega
  rw[e1,e2,Nat.pow_succ,<- Nat.div_div_eq_div_mul,Nat.pow_succ 2 v,Nat.mul_comm (2^v) 2,Nat.mod_mul];generalize u/2^(w-1-v)=x;rcases Nat.mod_two_eq_zero_or_one x with hx | hx
  ·rw[hx];simp
  ·rw[hx];simp[Nat.add_comm]
theorem numAt_pack (A B:List Bool) (u w k:Nat) (hk:A.length=k):numAt (pack (A++(bits u w++B))) k w=u % 2^w:=by
 have:=numAt_eq (pack (A++(bits u w++B))) k w u (λi hi=>by
  have hb:(bits u w).length=w:=length_bits u w;rw[bitAt_pack _ _ (by simp[hb];omega),List.getD_eq_getElem?_getD,List.getElem?_append_right (by omega),hk,Nat.add_sub_cancel_left,List.getElem?_append_left (by omega)];simp[bits,hi]) w (Nat.le_refl _)
 rw[this,Nat.sub_self,Nat.pow_zero,Nat.div_one]
end Bt
namespace S
def hdL (M b r m k c:Nat):List Bool:=Bt.bits M 64++(Bt.bits b 8++(Bt.bits r 8++(Bt.bits m 8++(Bt.bits k 8++Bt.bits c 32))))
theorem hdL_eq (s:Sh) (c:Nat):head s++Bt.bits c 32=hdL (meta_ s.role s.lpn s.seq) s.block.toNat s.row.toNat s.mask.toNat s.kind.toNat c:=by
 unfold head hdL;generalize meta_ s.role s.lpn s.seq=M;simp only[List.append_assoc]
theorem hd1 (M b r m k c:Nat):Bt.numAt (Bt.pack (hdL M b r m k c)) 0 64=M % 2^64:=Bt.numAt_pack [] _ M 64 0 rfl
theorem hd2 (M b r m k c:Nat):Bt.numAt (Bt.pack (hdL M b r m k c)) 64 8=b % 2^8:=Bt.numAt_pack (Bt.bits M 64) _ b 8 64 (Bt.length_bits _ _)
theorem hd3 (M b r m k c:Nat):Bt.numAt (Bt.pack (hdL M b r m k c)) 72 8=r % 2^8:=by
 have:=Bt.numAt_pack (Bt.bits M 64++Bt.bits b 8) (Bt.bits m 8++(Bt.bits k 8++Bt.bits c 32)) r 8 72 (by rw[List.length_append,Bt.length_bits,Bt.length_bits]);rw[<- this,List.append_assoc];rfl
theorem hd4 (M b r m k c:Nat):Bt.numAt (Bt.pack (hdL M b r m k c)) 80 8=m % 2^8:=by
 have:=Bt.numAt_pack (Bt.bits M 64++(Bt.bits b 8++Bt.bits r 8)) (Bt.bits k 8++Bt.bits c 32) m 8 80 (by rw[List.length_append,List.length_append,Bt.length_bits,Bt.length_bits,Bt.length_bits]);rw[<- this,List.append_assoc,List.append_assoc];rfl
theorem hd5 (M b r m k c:Nat):Bt.numAt (Bt.pack (hdL M b r m k c)) 88 8=k % 2^8:=by
 have:=Bt.numAt_pack (Bt.bits M 64++(Bt.bits b 8++(Bt.bits r 8++Bt.bits m 8))) (Bt.bits c 32) k 8 88 (by rw[List.length_append,List.length_append,List.length_append,Bt.length_bits,Bt.length_bits,Bt.length_bits,Bt.length_bits]);rw[<- this,List.append_assoc,List.append_assoc,List.append_assoc];rfl
theorem meta_back (role lpn seq:Int) (h1:0<=role/\role<=255) (h2:0<=lpn/\lpn<=65535) (h3:0<=seq/\seq<=1099511627775):((meta_ role lpn seq/72057594037927936:Nat):Int)=role/\((meta_ role lpn seq/1099511627776 % 65536:Nat):Int)=lpn/\((meta_ role lpn seq % 1099511627776:Nat):Int)=seq:=by
 unfold meta_;refine⟨?_,?_,?_⟩<;>omega
theorem fields_put (s:Sh) (hd:s.data.length=16) (h:may s=true):fields (put s)=s:=by
 obtain⟨hb,hr,hm,hk⟩:=may_bounds s h;have hn:(0<=s.seq/\s.seq<=1099511627775)/\(0<=s.lpn/\s.lpn<=65535)/\(0<=s.role/\s.role<=255):=by
  simp only[may,numbers,inB,Bool.and_eq_true,decide_eq_true_eq]at h;omega
 obtain⟨k1,k2,k3⟩:=meta_back s.role s.lpn s.seq hn.2.2 hn.2.1 hn.1;have hM:=meta_lt s.role s.lpn s.seq;obtain⟨M,hMe⟩:∃M,meta_ s.role s.lpn s.seq=M:=⟨_,rfl⟩;obtain⟨c,hc⟩:∃c,K.sum (s.data++Bt.pack (head s))=c:=⟨_,rfl⟩;have hp:put s=s.data++Bt.pack (hdL M s.block.toNat s.row.toNat s.mask.toNat s.kind.toNat c):=by rw[put,hc,hdL_eq,hMe]
 rw[hMe]at k1 k2 k3 hM;have e1:(put s).take 16=s.data:=by rw[hp,<- hd,List.take_left]
 have e2:(put s).drop 16=Bt.pack (hdL M s.block.toNat s.row.toNat s.mask.toNat s.kind.toNat c):=by rw[hp,<- hd,List.drop_left]
 have m1:=hd1 M s.block.toNat s.row.toNat s.mask.toNat s.kind.toNat c;have m2:=hd2 M s.block.toNat s.row.toNat s.mask.toNat s.kind.toNat c;have m3:=hd3 M s.block.toNat s.row.toNat s.mask.toNat s.kind.toNat c;have m4:=hd4 M s.block.toNat s.row.toNat s.mask.toNat s.kind.toNat c;have m5:=hd5 M s.block.toNat s.row.toNat s.mask.toNat s.kind.toNat c;have f:∀x:Int,0<=x/\x<=255->((x.toNat % 2^8:Nat):Int)=x:=λx hx=>by
  rw[Nat.mod_eq_of_lt (by omega)];omega
 rw[Nat.mod_eq_of_lt (show M<2^64 from hM)]at m1;have f1:=f s.block ⟨hb.1,by omega⟩;have f2:=f s.row ⟨hr.1,by omega⟩;have f3:=f s.mask hm;have f4:=f s.kind ⟨by omega,by omega⟩;unfold fields;simp only[e1,e2,m1,m2,m3,m4,m5,k1,k2,k3,f1,f2,f3,f4]
theorem get_put (s:Sh) (hd:s.data.length=16) (h:may s=true):get (put s)=some s:=by
 unfold get;rw[fields_put s hd h,if_pos ⟨h,rfl⟩]
theorem getV_put (s:Sh) (hd:s.data.length=16) (h:may s=true):getV (put s)=s/\getE (put s)=0:=by
 unfold getV getE;rw[get_put s hd h];exact⟨rfl,rfl⟩
end S
end Go.Proofs.YtpohajhbfllbbaaGreat
namespace Go.Proofs.YtpohajhbfllbbaaGreat
open Go
namespace K
theorem xor_cancel {a b c:Nat} (h:a ^^^ c=b ^^^ c):a=b:=by
 have:=congrArg (· ^^^ c) h;simpa[Nat.xor_assoc]using this
theorem round_inj {s t:Nat} (hs:s<4294967296) (ht:t<4294967296) (h:round s=round t):s=t:=by
 have odd:∀a:Nat,a % 2=0->(a ^^^ 1947962583) % 2=1:=λa ha=>by
  have h0:(a ^^^ 1947962583).testBit 0=true:=by
   rw[Nat.testBit_xor,Nat.testBit_zero,Nat.testBit_zero,decide_eq_false (by omega)];rfl
  rw[Nat.testBit_zero]at h0;exact of_decide_eq_true h0
 unfold round at h;split at h
 ·split at h
  ·omega
  ·have:=odd (t*2 % 4294967296) (by omega);omega
 ·split at h
  ·have:=odd (s*2 % 4294967296) (by omega);omega
  ·have:=xor_cancel h;omega
theorem rounds_inj:∀(n:Nat) {s t:Nat},s<4294967296->t<4294967296->rounds n s=rounds n t->s=t
 | 0,_,_,_,_,h=>h
 | n+1,s,t,hs,ht,h=>rounds_inj n hs ht (round_inj (rounds_lt n s hs) (rounds_lt n t ht) h)
theorem step_lt0 {s x:Nat} (hs:s<4294967296) (hx:x<256):s ^^^ (x*16777216)<4294967296:=Nat.xor_lt_two_pow (n:=32) (by omega) (by omega)
theorem step_inj {s t x:Nat} (hs:s<4294967296) (ht:t<4294967296) (hx:x<256) (h:step s x=step t x):s=t:=
 xor_cancel (rounds_inj 8 (step_lt0 hs hx) (step_lt0 ht hx) h)
theorem step_inj2 {s x y:Nat} (hs:s<4294967296) (hx:x<256) (hy:y<256) (h:step s x=step s y):x=y:=by
 have h1:=rounds_inj 8 (step_lt0 hs hx) (step_lt0 hs hy) h;rw[Nat.xor_comm s,Nat.xor_comm s]at h1;have:=xor_cancel h1;omega
theorem fold_inj (l:List UInt8):∀s t:Nat,s<4294967296->t<4294967296->l.foldl (λs x=>step s x.toNat) s=l.foldl (λs x=>step s x.toNat) t->s=t:=by
 induction l with
 | nil=>intro s t _ _ h;exact h
 | cons x l ih=>
  intro s t hs ht h;have hx:x.toNat<256:=x.toNat_lt;rw[List.foldl_cons,List.foldl_cons]at h;exact step_inj hs ht hx (ih _ _ (step_lt _ _ hs hx) (step_lt _ _ ht hx) h)
theorem sum_one (a b:List UInt8) (x y:UInt8) (h:sum (a++x::b)=sum (a++y::b)):x=y:=by
 unfold sum at h;rw[List.foldl_append,List.foldl_append,List.foldl_cons,List.foldl_cons]at h;have hs:=foldl_lt a 4294967295 (by omega);have hx:x.toNat<256:=x.toNat_lt;have hy:y.toNat<256:=y.toNat_lt;have:=step_inj2 hs hx hy (fold_inj b _ _ (step_lt _ _ hs hx) (step_lt _ _ hs hy) h);exact UInt8.toNat_inj.1 this
end K
namespace Bt
theorem byteAt_congr {a b:List Bool} {i j:Nat} (h:∀k,k<8->a.getD (i+k) false=b.getD (j+k) false):byteAt a i=byteAt b j:=by
 have h0:=h 0 (by omega);rw[Nat.add_zero,Nat.add_zero]at h0;unfold byteAt;rw[h0,h 1 (by omega),h 2 (by omega),h 3 (by omega),h 4 (by omega),h 5 (by omega),h 6 (by omega),h 7 (by omega)]
theorem pack_append (A C:List Bool) (q:Nat) (hA:A.length=8*q):pack (A++C)=pack A++pack C:=by
 apply List.ext_getElem?;intro j;have hl:(pack A).length=q:=by rw[length_pack,hA];omega
 rw[List.getElem?_append,hl]
 by_cases hj:j<(A.length+C.length+7)/8
 ·rw[pack_get _ _ (by rw[List.length_append];exact hj)];split
  ·rename_i h;rw[pack_get _ _ (by rw[hA];omega)];congr 2;refine byteAt_congr λk hk=>?_;simp only[List.getD_eq_getElem?_getD];rw[List.getElem?_append_left (by omega)]
  ·rename_i h;rw[pack_get _ _ (by omega)];congr 2;refine byteAt_congr λk hk=>?_;simp only[List.getD_eq_getElem?_getD];rw[List.getElem?_append_right (by omega)];congr 2;omega
 ·rw[List.getElem?_eq_none (by rw[length_pack,List.length_append];omega),if_neg (by omega),List.getElem?_eq_none (by rw[length_pack];omega)]
theorem bits_inj {u v:Nat} (hu:u<4294967296) (hv:v<4294967296) (h:pack (bits u 32)=pack (bits v 32)):u=v:=by
 have h1:=numAt_pack [] [] u 32 0 rfl;have h2:=numAt_pack [] [] v 32 0 rfl;simp only[List.nil_append,List.append_nil]at h1 h2;rw[h,h2]at h1;omega
end Bt
namespace S
theorem put_tail (s:Sh) (hs:s.data.length=16):put s=(put s).take 28++Bt.pack (Bt.bits (K.sum ((put s).take 28)) 32):=by
 have hl:(Bt.pack (head s)).length=12:=by rw[Bt.length_pack,length_head]
 have h1:put s=(s.data++Bt.pack (head s))++Bt.pack (Bt.bits (K.sum (s.data++Bt.pack (head s))) 32):=by
  unfold put;rw[Bt.pack_append _ _ 12 (length_head s),List.append_assoc]
 have h2:(put s).take 28=s.data++Bt.pack (head s):=by
  rw[h1];exact List.take_left' (by rw[List.length_append,hs,hl])
 rw[h2];exact h1
theorem turned_none (s:Sh) (hs:s.data.length=16) (N:Nat) (hN:N<32) (y:UInt8) (hy:y≠(put s).getD N 0):get ((put s).set N y)=none:=by
 have hpl:=length_put s hs;unfold get;rw[if_neg];rintro⟨_,h2⟩;have hx:(fields ((put s).set N y)).data.length=16:=by
  show(((put s).set N y).take 16).length=16;rw[List.length_take,List.length_set,hpl];rfl
 have t1:=put_tail s hs;have t2:=put_tail (fields ((put s).set N y)) hx;rw[h2]at t2;have hd:∀l:List UInt8,l.length=32->∀t,l=l.take 28++t->l.drop 28=t:=λl hl t h=>by
  have:=congrArg (List.drop 28) h
  rwa [List.drop_left' (by rw[List.length_take,hl];rfl)]at this
 have d1:=hd _ hpl _ t1;have d2:=hd _ (by rw[List.length_set];exact hpl) _ t2;have hg:(put s).getD N 0=(put s)[N]'(by omega):=by rw[List.getD_eq_getElem?_getD,List.getElem?_eq_getElem (by omega),Option.getD_some]
 rcases Nat.lt_or_ge N 28 with h | h
 ·have e1:((put s).set N y).drop 28=(put s).drop 28:=by rw[List.drop_set,if_pos h]
  rw[e1,d1]at d2;have hsum:=Bt.bits_inj (K.sum_lt _) (K.sum_lt _) d2;have hl28:((put s).take 28).length=28:=by rw[List.length_take,hpl];rfl
  have hN28:N<((put s).take 28).length:=by omega
  have hel:((put s).take 28)[N]=(put s)[N]'(by omega):=List.getElem_take;have ha:(put s).take 28=((put s).take 28).take N++(put s)[N]'(by omega)::((put s).take 28).drop (N+1):=by
   rw[<- hel,<- List.drop_eq_getElem_cons hN28,List.take_append_drop]
  have hb:((put s).set N y).take 28=((put s).take 28).take N++y::((put s).take 28).drop (N+1):=by
   rw[List.take_set,List.set_eq_take_append_cons_drop,if_pos (by omega)]
  rw[hb]at hsum;have hsum:=(congrArg K.sum ha).symm.trans hsum;exact hy ((K.sum_one _ _ _ _ hsum).symm.trans hg.symm)
 ·have e1:((put s).set N y).take 28=(put s).take 28:=by rw[List.take_set,List.set_eq_of_length_le (by rw[List.length_take,hpl];omega)]
  rw[e1]at t2;have e2:(put s).set N y=put s:=t2.trans t1.symm;have:=congrArg (λl:List UInt8=>l.getD N 0) e2;simp only[List.getD_eq_getElem?_getD,List.getElem?_set,hpl,if_pos hN,if_true,Option.getD_some]at this;rw[List.getD_eq_getElem?_getD]at hy;exact hy this
end S
def b2L (M q:Nat):Bool:=
 let p:=L.at_ M q
 if q<L.count M then
  L.has M p&&decide (0<=p)&&decide (p<6)&&
  ((List.range (L.count M-1)).all λk=>let d:=L.at_ (L.without M p) (k:Nat);L.has M d&&d !=p&&decide (0<=d)&&decide (d<6)&&(List.range k).all λk'=>L.at_ (L.without M p) (k':Nat) !=d)&&
  ((List.range 6).all λd=>!L.has M (d:Nat)||((d:Nat):Int)==p||(List.range (L.count M-1)).any λk=>L.at_ (L.without M p) (k:Nat)==((d:Nat):Int))
 else true
theorem a7N:∀M,M<64->∀q,q<6->b2L M q=true:=by decide+kernel
theorem b0j:∀M,M<64->L.count (M:Nat)<=6:=by decide+kernel
structure DieFacts (m b r:Int):Prop where
 par:L.has m (G.parity m b r)=true/\0<=G.parity m b r/\G.parity m b r<6
 die:∀k:Nat,(k:Int)<G.slots m->L.has m (G.die m b r k)=true/\G.die m b r k≠G.parity m b r/\0<=G.die m b r k/\G.die m b r k<6
 inj:∀k k':Nat,(k:Int)<G.slots m->k'<k->G.die m b r k'≠G.die m b r k
 all:∀d:Nat,d<6->L.has m (d:Nat)=true->(d:Int)=G.parity m b r\/∃k:Nat,(k:Int)<G.slots m/\G.die m b r k=d
theorem b2K (m b r:Int) (h0:0<=m) (h1:m<64) (hc:2<=L.count m) (hb:0<=b) (hr:0<=r):DieFacts m b r:=by
 obtain⟨M,rfl⟩:=Int.eq_ofNat_of_zero_le h0;have hM:M<64:=by omega
 have hp:G.parity M b r=L.at_ M ((b+r) % L.count (M:Int)):=by unfold G.parity;rw[if_neg (by omega)]
 have hs:G.slots M=(L.count (M:Int):Int)-1:=by unfold G.slots;rw[if_neg (by omega)]
 have hq:0<=(b+r) % (L.count (M:Int):Int)/\(b+r) % (L.count (M:Int):Int)<L.count (M:Int):=⟨Int.emod_nonneg _ (by omega),Int.emod_lt_of_pos _ (by omega)⟩;obtain⟨q,hq2⟩:=Int.eq_ofNat_of_zero_le hq.1;have h6:=b0j M hM;have hchk:=a7N M hM q (by omega);rw[hq2]at hp hq;unfold b2L at hchk;rw[if_pos (by omega)]at hchk;simp only[<- hp]at hchk;simp only[Bool.and_eq_true,decide_eq_true_eq,List.all_eq_true,List.mem_range,bne_iff_ne,ne_eq,Bool.or_eq_true,List.any_eq_true,Bool.not_eq_true',beq_iff_eq]at hchk;obtain⟨⟨⟨⟨c1,c2⟩,c3⟩,c4⟩,c5⟩:=hchk;have hd:∀k:Nat,G.die M b r k=L.at_ (L.without M (G.parity M b r)) (k:Nat):=λk=>by unfold G.die;rw[if_neg (by omega)]
 refine⟨⟨c1,c2,c3⟩,λk hk=>?_,λk k' hk hkk=>?_,λd hd6 hh=>?_⟩
 ·obtain⟨⟨⟨⟨a1,a2⟩,a3⟩,a4⟩,_⟩:=c4 k (by omega);rw[hd];exact⟨a1,a2,a3,a4⟩
 ·obtain⟨_,a5⟩:=c4 k (by omega);rw[hd,hd];exact a5 k' hkk
 ·rcases c5 d hd6 with(h | h) | ⟨k,h,h'⟩
  ·rw[hh]at h;cases h
  ·exact .inl h
  ·exact .inr ⟨k,by omega,by rw[hd];exact h'⟩
theorem a0g {m:Int} {D d:Nat} (h:m<2^D) (hh:L.has m (d:Nat)=true):d<D:=by
 obtain⟨h1,h2,h3,h4⟩:=L.has_lt m d hh;obtain⟨M,rfl⟩:=Int.eq_ofNat_of_zero_le h3;simp only[L.has,Bool.and_eq_true,Int.toNat_natCast]at hh;rcases Nat.lt_or_ge d D with hlt | hge
 ·exact hlt
 ·have hM:M<2^D:=by
   have e:((2^D:Nat):Int)=2^D:=by simp
   omega
  have:M<2^d:=Nat.lt_of_lt_of_le hM (Nat.pow_le_pow_right (by omega) hge);rw[Nat.testBit_lt_two_pow this]at hh;simp at hh
namespace Nand
variable {N : Nand}
theorem geoIn_of {d b p x y z:Int} (h1:0<=x/\x<d) (h2:0<=y/\y<b) (h3:0<=z/\z<p):B1 d b p x y z=true:=by
 simp[B1,h1,h2,h3]
end Nand
end Go.Proofs.YtpohajhbfllbbaaGreat
