/- Helpers, proved here. No condition. -/
import Derived.Test.YtdocmcapegcoeaaGreatC06
import Derived.Test.YtdocmcapegcoeaaGreatC18
import Derived.Test.YtdocmcapegcoeaaGreatC22
import Derived.Test.YtdocmcapegcoeaaGreatC26
import Derived.Test.YtdocmcapegcoeaaGreatC28
import Derived.Test.YtdocmcapegcoeaaGreatC29
import Derived.Test.YtdocmcapegcoeaaGreatC30
import Derived.Test.YtdocmcapegcoeaaGreatRows
import Derived.JoinedOf
set_option maxRecDepth 20000
set_option linter.all false
namespace Go.Proofs.YtdocmcapegcoeaaGreat
open Go Go.RowKit
theorem upR_succ' (N:Nand) (b r:Nat):V.upR N b (r+1)=V.upR N b r++R.all N (b:Nat) (r:Nat):=by
 rw[V.upR_succ];unfold V.upI;rw[List.take_length]
def inF (L:List Fnd) (m i:Nat):List Fnd:=(L.take i).filter λf=>decide (f.en.lpn<(m:Int))
theorem inF_succ (L:List Fnd) (m i:Nat) (x:Fnd) (h:L[i]? =some x):inF L m (i+1)=if x.en.lpn<(m:Int)then inF L m i++[x]else inF L m i:=by
 unfold inF;rw[List.take_add_one,h,Option.toList_some,List.filter_append]
 by_cases hp:x.en.lpn<(m:Int)
 ·rw[if_pos hp,List.filter_cons_of_pos (by simpa using hp)];rfl
 ·rw[if_neg hp,List.filter_cons_of_neg (by simpa using hp)];simp
theorem inF_len (L:List Fnd) (m i:Nat):(inF L m i).length<=i:=by
 unfold inF;have:=List.length_filter_le (λf:Fnd=>decide (f.en.lpn<(m:Int))) (L.take i);rw[List.length_take]at this;omega
theorem next_succ (L:List Fnd) (i:Nat) (x:Fnd) (h:L[i]? =some x):V.nextOf (L.take (i+1))=if x.en.seq>=V.nextOf (L.take i)then x.en.seq+1 else V.nextOf (L.take i):=by
 rw[List.take_add_one,h,Option.toList_some,V.nextOf_snoc];split<;>omega
def bstF (I:List Fnd) (m i:Nat):List Fnd:=(List.range m).map λk:Nat=>bestF (I.take i) (k:Int)
theorem bstF_len (I:List Fnd) (m i:Nat):(bstF I m i).length=m:=by simp[bstF]
theorem bstF_get (I:List Fnd) {m i k:Nat} (h:k<m):(bstF I m i)[k]? =some (bestF (I.take i) (k:Int)):=by simp[bstF,h]
theorem bstF_zero (I:List Fnd) (m:Nat):bstF I m 0=List.replicate m Fnd.zero:=by
 unfold bstF;rw[List.take_zero];apply List.ext_getElem?;intro j;rw[List.getElem?_map,List.getElem?_replicate]
 by_cases h:j<m
 ·rw[List.getElem?_range h,if_pos h];rfl
 ·rw[List.getElem?_eq_none (by rw[List.length_range];omega),if_neg h];rfl
theorem bstF_succ (I:List Fnd) (m i k:Nat) (x:Fnd) (h:I[i]? =some x) (hk:x.en.lpn=(k:Int)) (hr:∀f∈I,f.en.role≠0):bstF I m (i+1)=if(bestF (I.take i) (k:Int)).en.role=0\/betB x (bestF (I.take i) (k:Int))=true then(bstF I m i).set k x else bstF I m i:=by
 have hs:∀j:Nat,bestF (I.take (i+1)) (j:Int)=if x.en.lpn=(j:Int)/\((bestF (I.take i) (j:Int)).en.role=0\/betB x (bestF (I.take i) (j:Int))=true)then x else bestF (I.take i) (j:Int):=λj=>by
  rw[List.take_add_one,h,Option.toList_some];exact bestF_snoc _ x (λf hf=>hr f (List.mem_of_mem_take hf)) j
 apply List.ext_getElem?;intro j
 by_cases hj:j<m
 ·rw[bstF_get I hj,hs j]
  by_cases hc:(bestF (I.take i) (k:Int)).en.role=0\/betB x (bestF (I.take i) (k:Int))=true
  ·rw[if_pos hc,List.getElem?_set,bstF_len]
   by_cases e:k=j
   ·subst e;rw[if_pos ⟨hk,hc⟩,if_pos rfl,if_pos hj]
   ·rw[if_neg (λh=>e (by have:=h.1;omega)),if_neg e,bstF_get I hj]
  ·rw[if_neg hc,bstF_get I hj]
   by_cases e:k=j
   ·subst e;rw[if_neg (λh=>hc h.2)]
   ·rw[if_neg (λh=>e (by have:=h.1;omega))]
 ·rw[List.getElem?_eq_none (by rw[bstF_len];omega),List.getElem?_eq_none];split
  ·rw[List.length_set,bstF_len];omega
  ·rw[bstF_len];omega
theorem cellsF_rep (m:Nat):(List.replicate m (fnL Fnd.zero)).flatten=cellsF (List.replicate m Fnd.zero):=by
 unfold cellsF;rw[List.flatMap_def,List.map_replicate]
theorem inF_mem {L:List Fnd} {m i:Nat} {f:Fnd} (h:f∈inF L m i):f∈L/\f.en.lpn<(m:Int):=by
 unfold inF at h;obtain⟨h1,h2⟩:=List.mem_filter.1 h;exact⟨List.mem_of_mem_take h1,of_decide_eq_true h2⟩
theorem bestF_in (L:List Fnd) (m k:Nat) (hk:k<m):bestF (inF L m L.length) (k:Int)=(V.standOf (V.of L (k:Int))).1:=by
 unfold bestF inF;rw[List.take_length,of_in L m k hk]
theorem cellsF_pl {l:List Fnd} {k:Nat} {x:Fnd} (h:l[k]? =some x):((cellsF l).drop (k*25+19)).take 3=plL x.block x.row x.slot:=by
 have h1:=cellsF_get h;have h2:=congrArg (λz=>(z.drop 19).take 3) h1;rw[List.drop_take,List.take_take,List.drop_drop]at h2;exact h2
theorem f13_Scan (p:Nat) (N:Nand) (hN:N.Ok) (hR:N.Room) (n:Int) (m:Nat) (hm:min (max n 0) 65536=(m:Int)):Fn Tryz.prog 41 [.pointer (some ⟨p,0,none⟩), .int .i64 n] [NandA p N]
  (λv As=>∃q a1 c1 a2 c2,v=svV q (V.scan N n) a1 c1 a2 c2/\As=[NandA p N,RefA q (V.scan N n).tb m,ownA 38 19 a1 (V.scan N n).torn.length c1 (cellsE (V.scan N n).torn),ownA 3 1 a2 (V.scan N n).held.length c2 (cellsI (V.scan N n).held)]):=by
 have hbd:=hN.bd;have hsz:V.size n=m:=by unfold V.size;omega
 have hm1:m<=65536:=by omega
 refine Fn.enter [2,0] Tryz.func41 rfl rfl rfl λX F hX=>?_;refine J.q hX λbr=>?_;refine J.cb hX (f13_New n m hm) [] ?_;rintro v As ⟨q,rfl,rfl⟩;refine⟨_,rfl,trivial,?_⟩;refine J.turn1 [] rfl (As:=[ownA 142 25 none 0 0 (cellsF (V.upB N 0))]) (λh s=>Sep.one ⟨rfl,rfl,rfl⟩) rfl ?_;refine J.q hX λbo=>?_;refine J.lo (α:=(Nat×Option Nat×Nat)) (λz=>z.1<=N.blocks) (λz=>[⟨7, .int .i64 z.1,0, .tt⟩,⟨6,slv z.2.1 (V.upB N z.1).length z.2.2,0, .tt⟩,⟨5, .pointer (some ⟨bo 0,0,none⟩),6, .tt⟩,⟨4, .pointer (some ⟨br 0,0,none⟩),3, .tt⟩,⟨0, .pointer (some ⟨p,0,none⟩),2, .tt⟩]) [4] (λz=>[ownA 142 25 z.2.1 (V.upB N z.1).length z.2.2 (cellsF (V.upB N z.1))]) (λz=>N.blocks-z.1) ((0,none,0)) (Nat.zero_le _) rfl ?_ (λ_=>rfl) λz hI=>?_
 ·rfl
 obtain⟨b,ab,cb⟩:=z;dsimp only at hI ⊢;refine J.q hX λ_=>?_;refine J.cb hX (n_Geo p N) [1] ?_;refine cpq ⟨_,rfl,trivial,?_⟩;refine J.q hX λ_=>?_;refine J.cond rfl (λh1=>?_) (λh1=>?_)
 ·simp only[decide_eq_true_eq,Int.ofNat_lt]at h1;rw[<- V.upR_zero];refine J.q hX λ_=>?_;refine J.lo (α:=(Nat×Option Nat×Nat)) (λz=>z.1<=N.pages) (λz=>[⟨8, .int .i64 z.1,0, .tt⟩,⟨7, .int .i64 b,0, .tt⟩,⟨6,slv z.2.1 (V.upR N b z.1).length z.2.2,0, .tt⟩,⟨5, .pointer (some ⟨bo 0,0,none⟩),6, .tt⟩,⟨4, .pointer (some ⟨br 0,0,none⟩),3, .tt⟩,⟨0, .pointer (some ⟨p,0,none⟩),2, .tt⟩]) [4] (λz=>[ownA 142 25 z.2.1 (V.upR N b z.1).length z.2.2 (cellsF (V.upR N b z.1))]) (λz=>N.pages-z.1) ((0,ab,cb)) (Nat.zero_le _) rfl ?_ (λ_=>rfl) λz hI=>?_
  ·rfl
  obtain⟨r,ar,cr⟩:=z;dsimp only at hI ⊢;refine J.q hX λ_=>?_;refine J.cb hX (n_Geo p N) [1] ?_;refine cpq ⟨_,rfl,trivial,?_⟩;refine J.q hX λ_=>?_;refine J.cond rfl (λh2=>?_) (λh2=>?_)
  ·simp only[decide_eq_true_eq,Int.ofNat_lt]at h2;have hul:=upR_len N hN b r (by omega) (by omega);have hal:=rall_len N hN b r;have hus:=upR_succ' N b r;refine J.q hX λ_=>?_;refine J.cb hX (f9_All p N hN hR b r) [1] ?_;rintro v As ⟨a1,c1,rfl,rfl⟩;refine⟨_,rfl,trivial,?_⟩;refine J.q hX λ_=>?_;refine J.appendO hX tk 4 6 rfl rfl rfl rfl rfl rfl rfl rfl rfl rfl rfl rfl rfl (cellsF_one _) ?_ ?_ (λ_=>rfl) λa6 c6=>⟨_,(congrArg (λy=>lset _ 4 (ownA _ _ _ _ _ y)) (cellsF_app' _ _)).trans rfl,trivial,?_⟩
   ·simp only[maxLen];omega
   ·omega
   rw[show(V.upR N b r).length+(R.all N (b:Nat) (r:Nat)).length=(V.upR N b (r+1)).length from by rw[hus,List.length_append],<- hus];refine J.q hX λ_=>?_;refine J.nS ((r+1,a6,c6)) (by dsimp only;omega) (by dsimp only;omega) [0,1,2,3,4,5] rfl rfl
  simp only[decide_eq_false_iff_not,Int.ofNat_lt]at h2;obtain rfl:r=N.pages:=by omega
  rw[<- V.upB_succ];refine J.q hX λ_=>?_;refine J.nS ((b+1,ar,cr)) (by dsimp only;omega) (by dsimp only;omega) [0,1,2,3,4,5] rfl rfl
 simp only[decide_eq_false_iff_not,Int.ofNat_lt]at h1;obtain rfl:b=N.blocks:=by omega
 rw[V.upB_all];obtain⟨L,hL⟩:∃L,L=V.all N:=⟨_,rfl⟩;have hLl:=all_len N hN;have hLb:∀f∈L,EnBd f.en/\(f.en.role=1\/f.en.role=2\/f.en.role=4)/\∃r:Nat,f.row=(r:Int)/\r<N.pages:=λf hf=>by
  rw[hL]at hf;have:=all_bd hf;exact⟨this.2,all_role hf,this.1⟩
 rw[<- hL]at hLl ⊢;refine J.turn1 [] rfl (As:=[ownA 142 25 none 0 0 (cellsF (inF L m 0))]) (λh s=>Sep.one ⟨rfl,rfl,rfl⟩) rfl ?_;refine J.open_ (α:=Nat) 3 rfl rfl (λ_=>rfl) λg=>?_;refine J.q hX λ_=>?_;refine J.lo (α:=(Nat×Option Nat×Nat)) (λz=>z.1<=L.length) (λz=>[⟨11, .int .i64 z.1,0, .tt⟩,⟨9,slv z.2.1 (inF L m z.1).length z.2.2,0, .tt⟩,⟨6,slv ab L.length cb,0, .tt⟩,⟨5, .pointer (some ⟨bo 0,0,none⟩),6, .tt⟩,⟨4, .pointer (some ⟨br 0,0,none⟩),3, .tt⟩,⟨0, .pointer (some ⟨p,0,none⟩),2, .tt⟩]) [5,6] (λz=>[.pt (bo 0) 76 (svL q (.slice none 0 0) 0 (.slice none 0 0) (V.nextOf (L.take z.1)) L.length),ownA 142 25 z.2.1 (inF L m z.1).length z.2.2 (cellsF (inF L m z.1))]) (λz=>L.length-z.1) ((0,none,0)) (Nat.zero_le _) rfl ?_ (λ_=>rfl) λz hI=>?_
 ·rfl
 obtain⟨i,ai,ci⟩:=z;dsimp only at hI ⊢;have hil:=inF_len L m i;refine J.q hX λ_=>?_;refine J.cond rfl (λh3=>?_) (λh3=>?_)
 ·simp only[decide_eq_true_eq,Int.ofNat_lt]at h3;obtain⟨x,hx⟩:∃x,L[i]? =some x:=⟨_,List.getElem?_eq_getElem h3⟩;have hxb:=(hLb x (List.mem_of_getElem? hx)).1;unfold EnBd at hxb;have hns:=next_succ L i x hx;have his:=inF_succ L m i x hx;refine J.know (λh' s=>own_some (c:=(ab,cb)) (by omega) (s.get (i:=4) rfl)) λhg=>?_;obtain⟨gl,rfl⟩:=hg;refine J.q hX λ_=>?_;refine J.plan (.of [0,4,8,12,16,21,24,29,32]) [] [4,5] (by rw[hX.hP];kernel_rfl) (by kernel_rfl) ?_;refine J.q hX λ_=>?_;refine J.valT hX (.int .i64 x.en.seq) 0 rfl rfl (λhg a w he hC=>own1_run tk rfl rfl he rfl rfl rfl (hC rfl _ (cget_mem (i:=4) rfl)) (by rw[show 0+(i:Int).toNat*25+0+1=0+(i:Int).toNat*25+1 from rfl,cellsF_in hx 1 (by decide)];rfl)) rfl ?_;refine J.q hX λ_=>?_;refine J.join (α:=Unit) (λ_=>[⟨11, .int .i64 i,0, .tt⟩,⟨9,slv ai (inF L m i).length ci,0, .tt⟩,⟨6,slv (some gl) L.length cb,0, .tt⟩,⟨5, .pointer (some ⟨bo 0,0,none⟩),6, .tt⟩,⟨4, .pointer (some ⟨br 0,0,none⟩),3, .tt⟩,⟨0, .pointer (some ⟨p,0,none⟩),2, .tt⟩]) (λ_=>[.hp F,NandA p N, .pt (br 0) 76 [.pointer none, .slice none 0 0, .int .i64 0, .slice none 0 0, .int .i64 0, .int .i64 0], .pt q 82 [.slice (some ⟨g,0,none⟩) m m, .int .i64 1],ownA 142 25 (some gl) L.length cb (cellsF L), .pt (bo 0) 76 (svL q (.slice none 0 0) 0 (.slice none 0 0) (V.nextOf (L.take (i+1))) L.length),ownA 142 25 ai (inF L m i).length ci (cellsF (inF L m i)), .pt g 79 (stC [] m)]) (λhj=>?_) (λ_=>?_)
  ·refine J.q hX λ_=>?_;refine J.cond rfl (λh4=>?_) (λh4=>?_)
   ·rw[if_pos (of_decide_eq_true h4)]at hns;rw[hns]at hj;refine J.q hX λ_=>?_;refine J.val hX (.int .i64 x.en.seq) 0 rfl rfl (λhg a w he hs=>own1_run tk rfl rfl he rfl rfl rfl (hs.get (i:=4) rfl) (by rw[show 0+(i:Int).toNat*25+0+1=0+(i:Int).toNat*25+1 from rfl,cellsF_in hx 1 (by decide)];rfl)) rfl trivial ?_;refine J.qn hX 4 λ_=>?_;exact J.goto [0,1,2,3,4,5,6,7] (hj ()) ⟨rfl,rfl,rfl,rfl,rfl,rfl,trivial⟩ rfl rfl
   ·rw[if_neg (of_decide_eq_false h4)]at hns;rw[hns]at hj;refine J.qn hX 1 λ_=>?_;exact J.goto [0,1,2,3,4,5,6,7] (hj ()) ⟨rfl,rfl,rfl,rfl,rfl,rfl,trivial⟩ rfl rfl
  refine J.q hX λ_=>?_;refine J.plan (.of [0,4,8,12,16,21,24,29,32,36,41,44,48]) [] [3,4,5] (by rw[hX.hP];kernel_rfl) (by kernel_rfl) ?_;refine J.q hX λ_=>?_;refine J.valT hX (.int .i64 x.en.lpn) 0 rfl rfl (λhg a w he hC=>own1_run tk rfl rfl he rfl rfl rfl (hC rfl _ (cget_mem (i:=4) rfl)) (by rw[show 0+(i:Int).toNat*25+0+0=0+(i:Int).toNat*25+0 from rfl,cellsF_in hx 0 (by decide)];rfl)) rfl ?_;refine J.q hX λ_=>?_;refine J.valT hX (.slice (some ⟨g,0,none⟩) m m) 0 rfl rfl (λhg a w he hC=>load1_run tk rfl rfl he rfl rfl rfl (hC rfl _ (cget_mem (i:=3) rfl)) rfl) rfl ?_;refine J.q hX λ_=>?_;refine J.cond rfl (λh5=>?_) (λh5=>?_)
  ·rw[if_pos (of_decide_eq_true h5)]at his;refine J.q hX λ_=>?_;refine J.val hX (fdV x) 0 rfl rfl (λhg a w he hs=>ownN_run tk rfl rfl he rfl rfl rfl (hs.get (i:=4) rfl) (by rw[show 0+(i:Int).toNat*25=i*25 from by omega];exact cellsF_get hx) rfl) rfl trivial ?_;refine J.q hX λ_=>?_;refine J.append hX tk 6 8 0 rfl rfl rfl rfl rfl rfl rfl rfl rfl rfl rfl rfl rfl rfl rfl rfl ?_ ?_ (λ_=>rfl) λa2 c2=>⟨_,(congrArg (λy=>lset _ 6 (ownA _ _ _ _ _ y)) (cellsF_snoc' _ x)).trans rfl,trivial,?_⟩
   ·simp only[maxLen];omega
   ·omega
   rw[show(inF L m i).length+1=(inF L m (i+1)).length from by rw[his];simp,<- his];refine J.q hX λ_=>?_;refine J.nS ((i+1,a2,c2)) (by dsimp only;omega) (by dsimp only;omega) [0,1,2,3,4,5,6,7] rfl rfl
  ·rw[if_neg (of_decide_eq_false h5)]at his;rw[<- his];refine J.q hX λ_=>?_;refine J.nS ((i+1,ai,ci)) (by dsimp only;omega) (by dsimp only;omega) [0,1,2,3,4,5,6,7] rfl rfl
 simp only[decide_eq_false_iff_not,Int.ofNat_lt]at h3;obtain rfl:i=L.length:=by omega
 rw[List.take_length];have hbin:=bestF_in L m;have hIm:∀f∈inF L m L.length,f∈L/\f.en.lpn<(m:Int):=λf hf=>inF_mem hf;have hIn0:∀k:Nat,k<m->V.of (inF L m L.length) (k:Int)=V.of L (k:Int):=λk hk=>by unfold inF;rw[List.take_length];exact of_in L m k hk
 obtain⟨I,hI⟩:∃I,I=inF L m L.length:=⟨_,rfl⟩;rw[<- hI]at hil hbin hIm hIn0 ⊢;have hIr:∀f∈I,f.en.role≠0:=λf hf=>by have:=(hLb f (hIm f hf).1).2.1;omega
 refine J.q hX λ_=>?_;refine J.val hX (.slice (some ⟨g,0,none⟩) m m) 0 rfl rfl (λhg a w he hs=>load1_run tk rfl rfl he rfl rfl rfl (hs.get (i:=3) rfl) rfl) rfl trivial ?_;refine J.qn hX 1 λ_=>?_;refine J.makeMany hX tk 9 rfl rfl rfl rfl rfl rfl rfl rfl rfl rfl rfl ?_ ?_ (λ_=>rfl) (λ_=>rfl) λgB=>⟨trivial,?_⟩
 ·simp only[maxLen];omega
 ·omega
 refine J.turn1 [8] rfl (As:=[.pt gB 142 (cellsF (bstF I m 0))]) (λh s=>by rw[bstF_zero,<- cellsF_rep];exact s) rfl ?_;refine J.q hX λ_=>?_;refine J.lo (α:=Nat) (λk=>k<=I.length) (λk=>[⟨12, .int .i64 k,0, .tt⟩,⟨10, .slice (some ⟨gB,0,none⟩) m m,9, .tt⟩,⟨9,slv ai I.length ci,0, .tt⟩,⟨5, .pointer (some ⟨bo 0,0,none⟩),6, .tt⟩,⟨4, .pointer (some ⟨br 0,0,none⟩),3, .tt⟩,⟨0, .pointer (some ⟨p,0,none⟩),2, .tt⟩]) [8] (λk=>[.pt gB 142 (cellsF (bstF I m k))]) (λk=>I.length-k) (0) (Nat.zero_le _) rfl ?_ (λ_=>rfl) λk hI=>?_
 ·rfl
 refine J.q hX λ_=>?_;refine J.cond rfl (λh6=>?_) (λh6=>?_)
 ·simp only[decide_eq_true_eq,Int.ofNat_lt]at h6;obtain⟨x,hx⟩:∃x,I[k]? =some x:=⟨_,List.getElem?_eq_getElem h6⟩;obtain⟨hxL,hxm⟩:=hIm x (List.mem_of_getElem? hx);have hxb:=(hLb x hxL).1;unfold EnBd at hxb;obtain⟨kk,hkk⟩:=Int.eq_ofNat_of_zero_le hxb.1.1;have hkm:kk<m:=by omega
  have hbg:=bstF_get I (i:=k) hkm;have hbs:=bstF_succ I m k kk x hx hkk hIr;obtain⟨y,hy⟩:∃y,y=bestF (I.take k) (kk:Int):=⟨_,rfl⟩;rw[<- hy]at hbg hbs;refine J.know (λh' s=>own_some (c:=(ai,ci)) (by omega) (s.get (i:=6) rfl)) λhg=>?_;obtain⟨gi,rfl⟩:=hg;refine J.q hX λ_=>?_;refine J.val hX (.int .i64 kk) 0 rfl rfl (λhg a w he hs=>own1_run tk rfl rfl he rfl rfl rfl (hs.get (i:=6) rfl) (by rw[show 0+(k:Int).toNat*25+0+0=0+(k:Int).toNat*25+0 from rfl,cellsF_in hx 0 (by decide),<- hkk];rfl)) rfl trivial ?_;refine J.q hX λ_=>?_;refine J.join (α:=Unit) (λ_=>[⟨121, .bool (y.en.role==0||betB x y),0, .tt⟩,⟨13, .int .i64 kk,0, .tt⟩,⟨12, .int .i64 k,0, .tt⟩,⟨10, .slice (some ⟨gB,0,none⟩) m m,9, .tt⟩,⟨9,slv (some gi) I.length ci,0, .tt⟩,⟨5, .pointer (some ⟨bo 0,0,none⟩),6, .tt⟩,⟨4, .pointer (some ⟨br 0,0,none⟩),3, .tt⟩,⟨0, .pointer (some ⟨p,0,none⟩),2, .tt⟩]) (λ_=>[.hp F,NandA p N, .pt (br 0) 76 [.pointer none, .slice none 0 0, .int .i64 0, .slice none 0 0, .int .i64 0, .int .i64 0], .pt q 82 [.slice (some ⟨g,0,none⟩) m m, .int .i64 1],ownA 142 25 ab L.length cb (cellsF L), .pt (bo 0) 76 (svL q (.slice none 0 0) 0 (.slice none 0 0) (V.nextOf L) L.length),ownA 142 25 (some gi) I.length ci (cellsF I), .pt g 79 (stC [] m), .pt gB 142 (cellsF (bstF I m k))]) (λhj=>?_) (λ_=>?_)
  ·refine J.q hX λ_=>?_;refine J.plan (.of [0,4,8,12,16,21,24,28,32,36,40,45,48,52,56,61,66,68]) [] [6,8] (by rw[hX.hP];kernel_rfl) (by kernel_rfl) ?_;refine J.q hX λ_=>?_;refine J.valT hX (.int .i64 y.en.role) 0 rfl rfl (λhg a w he hC=>load1_run tk rfl rfl he rfl rfl rfl (hC rfl _ (cget_mem (i:=8) rfl)) (by rw[show 0+(kk:Int).toNat*25+0+2=0+(kk:Int).toNat*25+2 from rfl,cellsF_in hbg 2 (by decide)];rfl)) rfl ?_
   by_cases hz:y.en.role=0
   ·rw[beq_iff_eq.2 hz]at hj;refine J.qn hX 2 λ_=>?_;rw[beq_iff_eq.2 hz];refine J.q hX λ_=>?_;refine J.valT hX (fdV x) 0 rfl rfl (λhg a w he hC=>by simp[G.on]at hg) rfl ?_;refine J.q hX λ_=>?_;refine J.valT hX (fdV y) 0 rfl rfl (λhg a w he hC=>by simp[G.on]at hg) rfl ?_;refine J.q hX λ_=>?_;refine J.gcase hX rfl rfl rfl (by first | exact trivial | (repeat' (first | exact trivial | refine⟨rfl,?_⟩))) (λh=>by cases h) (λ_=>?_);refine J.slot (k:=120) (s':=⟨120, .bool false,0, .when false⟩) rfl rfl rfl ?_;refine J.qn hX 2 λ_=>?_;exact J.goto [0,1,2,3,4,5,6,7,8] (hj ()) ⟨rfl,rfl,rfl,rfl,rfl,rfl,rfl,rfl,trivial⟩ rfl rfl
   ·rw[beq_eq_false_iff_ne.2 hz]at hj;refine J.qn hX 2 λ_=>?_;rw[beq_eq_false_iff_ne.2 hz];refine J.q hX λ_=>?_;refine J.valT hX (fdV x) 0 rfl rfl (λhg a w he hC=>ownN_run tk rfl rfl he hg rfl rfl (hC rfl _ (cget_mem (i:=6) rfl)) (by rw[show 0+(k:Int).toNat*25=k*25 from by omega];exact cellsF_get hx) rfl) rfl ?_;refine J.q hX λ_=>?_;refine J.valT hX (fdV y) 0 rfl rfl (λhg a w he hC=>loadN_run tk rfl rfl he hg rfl rfl (hC rfl _ (cget_mem (i:=8) rfl)) (by rw[show 0+(kk:Int).toNat*25=kk*25 from by omega];exact cellsF_get hbg) rfl) rfl ?_;refine J.q hX λ_=>?_;refine J.cb hX (f13_better x y) [] ?_;refine cpq ⟨_,rfl,(by first | exact trivial | (repeat' (first | exact trivial | refine⟨rfl,?_⟩))),?_⟩;refine J.qn hX 2 λ_=>?_;exact J.goto [0,1,2,3,4,5,6,7,8] (hj ()) ⟨rfl,rfl,rfl,rfl,rfl,rfl,rfl,rfl,trivial⟩ rfl rfl
  refine J.q hX λ_=>?_;refine J.cond rfl (λh7=>?_) (λh7=>?_)
  ·have hc:y.en.role=0\/betB x y=true:=by simpa using h7
   rw[if_pos hc]at hbs;refine J.q hX λ_=>?_;refine J.val hX (fdV x) 0 rfl rfl (λhg a w he hs=>ownN_run tk rfl rfl he rfl rfl rfl (hs.get (i:=6) rfl) (by rw[show 0+(k:Int).toNat*25=k*25 from by omega];exact cellsF_get hx) rfl) rfl trivial ?_;refine J.qn hX 1 λ_=>?_;refine J.storeN hX tk 8 rfl rfl rfl rfl rfl rfl rfl rfl rfl rfl rfl rfl rfl ?_ (cellsF ((bstF I m k).set kk x)) ?_ rfl (λ_=>rfl) ⟨trivial,?_⟩
   ·rw[cellsF_len,bstF_len];show 0+(kk:Int).toNat*25+25<=m*25;omega
   ·have:=cellsF_set (bstF I m k) [] kk x (by rw[bstF_len];exact hkm);simp only[List.append_nil]at this;rw[show 0+(kk:Int).toNat*25=kk*25 from by omega];exact this
   rw[<- hbs];refine J.q hX λ_=>?_;refine J.nS (k+1) (by omega) (by omega) [0,1,2,3,4,5,6,7,8] rfl rfl
  ·have hc:¬(y.en.role=0\/betB x y=true):=by simpa using h7
   rw[if_neg hc]at hbs;rw[<- hbs];refine J.q hX λ_=>?_;refine J.nS (k+1) (by omega) (by omega) [0,1,2,3,4,5,6,7,8] rfl rfl
 simp only[decide_eq_false_iff_not,Int.ofNat_lt]at h6;obtain rfl:k=I.length:=by omega
 have hbfin:∀j:Nat,j<m->(bstF I m I.length)[j]? =some (V.standOf (V.of L (j:Int))).1:=λj hj=>by
  rw[bstF_get I hj,List.take_length,hbin j hj]
 have hbl:=bstF_len I m I.length;generalize bstF I m I.length=Bs at hbfin hbl;refine J.close (f:=λg:Nat=>RefP q (Tb.new n) m g) g [3,7] rfl rfl rfl ?_;refine J.turn1 [] rfl (As:=[ownA 38 19 none 0 0 (cellsE [])]) (λh s=>Sep.one ⟨rfl,rfl,rfl⟩) rfl ?_;refine J.turn1 [] rfl (As:=[ownA 3 1 none 0 0 (cellsI [])]) (λh s=>Sep.one ⟨rfl,rfl,rfl⟩) rfl ?_;refine J.turn1 [] rfl (As:=[ownA 38 19 none 0 0 (cellsE [])]) (λh s=>Sep.one ⟨rfl,rfl,rfl⟩) rfl ?_;refine J.q hX λ_=>?_;have hS0:V.goS N L n 0=⟨Tb.new n,[],[],[]⟩:=rfl;refine J.q hX λ_=>?_;refine J.lo (α:=(Nat×(Option Nat×Nat)×(Option Nat×Nat)×(Option Nat×Nat))) (λz=>z.1<=m) (λz=>[⟨15, .int .i64 z.1,0, .tt⟩,⟨14,slv z.2.2.2.1 (V.goS N L n z.1).others.length z.2.2.2.2,0, .tt⟩,⟨10, .slice (some ⟨gB,0,none⟩) m m,9, .tt⟩,⟨9,slv ai I.length ci,0, .tt⟩,⟨5, .pointer (some ⟨bo 0,0,none⟩),6, .tt⟩,⟨4, .pointer (some ⟨br 0,0,none⟩),3, .tt⟩,⟨0, .pointer (some ⟨p,0,none⟩),2, .tt⟩]) [3,5,9,10,11] (λz=>[RefA q (V.goS N L n z.1).tb m, .pt (bo 0) 76 (svL q (slv z.2.1.1 (V.goS N L n z.1).torn.length z.2.1.2) 0 (slv z.2.2.1.1 (normI (V.goS N L n z.1).held).length z.2.2.1.2) (V.nextOf L) L.length),ownA 38 19 z.2.1.1 (V.goS N L n z.1).torn.length z.2.1.2 (cellsE (V.goS N L n z.1).torn),ownA 3 1 z.2.2.1.1 (normI (V.goS N L n z.1).held).length z.2.2.1.2 (cellsI (normI (V.goS N L n z.1).held)),ownA 38 19 z.2.2.2.1 (V.goS N L n z.1).others.length z.2.2.2.2 (cellsE (V.goS N L n z.1).others)]) (λz=>m-z.1) ((0,(none,0),(none,0),(none,0))) (Nat.zero_le _) rfl ?_ (λ_=>rfl) λz hI=>?_
 ·rw[hS0];dsimp only;rw[normI_nil];rfl
 obtain⟨k,⟨at_,ct⟩,⟨ah,ch⟩,⟨ao,co⟩⟩:=z;dsimp only at hI ⊢;have hgl:=V.goS_len N L n k;have hgh:=V.goS_held N L n k;have hnl:=normI_len (V.goS N L n k).held;refine J.q hX λ_=>?_;refine J.cond rfl (λh8=>?_) (λh8=>?_)
 ·simp only[decide_eq_true_eq,Int.ofNat_lt]at h8;have hbk:=hbfin k h8;obtain⟨f,hf⟩:∃f,f=(V.standOf (V.of L (k:Int))).1:=⟨_,rfl⟩;have hrole0:=stand_role (l:=V.of L (k:Int)) (λf hf=>by have:=(hLb f (List.mem_filter.1 hf).1).2.1;omega);rw[<- hf]at hbk hrole0;have hst:=V.goS_succ N L n k;refine J.q hX λ_=>?_;refine J.val hX (.int .i64 f.en.role) 0 rfl rfl (λhg a w he hs=>load1_run tk rfl rfl he rfl rfl rfl (hs.get (i:=8) rfl) (by rw[show 0+(k:Int).toNat*25+0+2=0+(k:Int).toNat*25+2 from rfl,cellsF_in hbk 2 (by decide)];rfl)) rfl trivial ?_;refine J.q hX λ_=>?_;refine J.cond rfl (λh9=>?_) (λh9=>?_)
  ·have h2:(V.standOf (V.of L (k:Int))).2=false:=hrole0.1 (by simpa using h9);have hstep:V.goS N L n (k+1)=V.goS N L n k:=by
    rw[hst];unfold V.step;rw[if_neg (by rw[h2];exact Bool.false_ne_true)]
   rw[<- hstep];refine J.q hX λ_=>?_;refine J.nS ((k+1,(at_,ct),(ah,ch),(ao,co))) (by dsimp only;omega) (by dsimp only;omega) [0,1,2,3,4,5,6,7,8,9,10,11] rfl rfl
  have h2:(V.standOf (V.of L (k:Int))).2=true:=by
   cases hc:(V.standOf (V.of L (k:Int))).2 with
   | true=>rfl
   | false=>
    have:=hrole0.2 hc;rw[this]at h9;cases h9
  have hmem:f∈V.of L (k:Int):=by rw[hf];exact V.standOf_mem h2
  obtain⟨hfL,hfk0⟩:=List.mem_filter.1 hmem;have hfk:f.en.lpn=(k:Int):=eq_of_beq hfk0;obtain⟨hfb,hfr,r0,hfrow,hr0⟩:=hLb f hfL;unfold EnBd at hfb;have hstep:V.goS N L n (k+1)=if f.whole=true then {V.goS N L n k with tb:=(V.goS N L n k).tb.put f.en f.block f.row f.slot f.mask}else if V.last N f=true then⟨(V.goS N L n k).tb.put f.en f.block f.row f.slot f.mask,(V.goS N L n k).torn++[f.en],(V.goS N L n k).held++V.holds (V.of L k),(V.goS N L n k).others⟩else⟨(V.goS N L n k).tb.put f.en f.block f.row f.slot f.mask,(V.goS N L n k).torn,(V.goS N L n k).held,(V.goS N L n k).others++[f.en]⟩:=by
   rw[hst];unfold V.step;rw[if_pos h2,<- hf]
  have hno:Tb.look (V.goS N L n k).tb.at_ f.en.lpn=none:=by rw[hfk,V.goS_look,if_neg (by omega)]
  have hlog:(V.goS N L n k).tb.logical=(m:Int):=by rw[V.goS_log];exact hm
  have hheld:=heldK_all (V.goS N L n k).held I (k:Int) (λf hf=>by have:=(hLb f (hIm f hf).1).1;unfold EnBd at this;omega);rw[hIn0 k h8]at hheld;have hhl:=V.holds_len (V.of L (k:Int));have hol:=V.of_len L (k:Int);generalize V.goS N L n k=S at hgl hgh hnl hstep hno hlog hheld;refine J.q hX λ_=>?_;refine J.plan (.of [0,5,8,12,16,20,25,28,32,36,40,45,48,52,56,60,65,70]) [] [5,8] (by rw[hX.hP];kernel_rfl) (by kernel_rfl) ?_;refine J.q hX λ_=>?_;refine J.valT hX (enV f.en) 0 rfl rfl (λhg a w he hC=>loadN_run tk rfl rfl he rfl rfl rfl (hC rfl _ (cget_mem (i:=8) rfl)) (by rw[show 0+(k:Int).toNat*25+0=k*25 from by omega];exact cellsF_en hbk) rfl) rfl ?_;refine J.q hX λ_=>?_;refine J.valT hX (plV f.block f.row f.slot) 0 rfl rfl (λhg a w he hC=>loadN_run tk rfl rfl he rfl rfl rfl (hC rfl _ (cget_mem (i:=8) rfl)) (by rw[show 0+(k:Int).toNat*25+19=k*25+19 from by omega];exact cellsF_pl hbk) rfl) rfl ?_;refine J.q hX λ_=>?_;refine J.valT hX (.int .i64 f.mask) 0 rfl rfl (λhg a w he hC=>load1_run tk rfl rfl he rfl rfl rfl (hC rfl _ (cget_mem (i:=8) rfl)) (by rw[cellsF_in hbk 22 (by decide)];rfl)) rfl ?_;refine J.q hX λ_=>?_;refine J.cb hX (f13_Put q S.tb m f.en f.block f.row f.slot f.mask (by omega) hm1 hlog hfr hfb.2 hno) [3] ?_;refine cpq ⟨_,rfl,(by first | exact trivial | (repeat' (first | exact trivial | refine⟨rfl,?_⟩))),?_⟩;refine J.q hX λ_=>?_;refine J.val hX (.bool f.whole) 0 rfl rfl (λhg a w he hs=>load1_run tk rfl rfl he rfl rfl rfl (hs.get (i:=8) rfl) (by rw[cellsF_in hbk 23 (by decide)];rfl)) rfl trivial ?_;refine J.q hX λ_=>?_;refine J.cond rfl (λh10=>?_) (λh10=>?_)
  ·rw[if_pos h10]at hstep;have e1:=congrArg Sst.tb hstep;have e2:=congrArg Sst.torn hstep;have e3:=congrArg Sst.held hstep;have e4:=congrArg Sst.others hstep;dsimp only at e1 e2 e3 e4;rw[<- e1,<- e2,<- e3,<- e4];refine J.q hX λ_=>?_;refine J.nS ((k+1,(at_,ct),(ah,ch),(ao,co))) (by dsimp only;omega) (by dsimp only;omega) [0,1,2,3,4,5,6,7,8,9,10,11] rfl rfl
  rw[if_neg (by rw[h10];exact Bool.false_ne_true)]at hstep;refine J.q hX λ_=>?_;refine J.val hX (fdV f) 0 rfl rfl (λhg a w he hs=>loadN_run tk rfl rfl he rfl rfl rfl (hs.get (i:=8) rfl) (by rw[show 0+(k:Int).toNat*25=k*25 from by omega];exact cellsF_get hbk) rfl) rfl trivial ?_;refine J.q hX λ_=>?_;refine J.cb hX (f13_last p N hN hR f r0 hfrow (by omega)) [1] ?_;refine cpq ⟨_,rfl,trivial,?_⟩;refine J.q hX λ_=>?_;refine J.cond rfl (λh11=>?_) (λh11=>?_)
  ·rw[if_pos h11]at hstep;have e1:=congrArg Sst.tb hstep;have e2:=congrArg Sst.torn hstep;have e3:=congrArg Sst.held hstep;have e4:=congrArg Sst.others hstep;dsimp only at e1 e2 e3 e4;refine J.q hX λ_=>?_;refine J.plan (.of [0,5,8,12,16,20,25,30,34,36,43]) [9,10] [5,8] (by rw[hX.hP];kernel_rfl) (by kernel_rfl) ?_;refine J.q hX λ_=>?_;refine J.valT hX (enV f.en) 0 rfl rfl (λhg a w he hC=>loadN_run tk rfl rfl he rfl rfl rfl (hC rfl _ (cget_mem (i:=8) rfl)) (by rw[show 0+(k:Int).toNat*25+0=k*25 from by omega];exact cellsF_en hbk) rfl) rfl ?_;refine J.q hX λ_=>?_;refine J.append hX tk 9 12 0 rfl rfl rfl rfl rfl rfl rfl rfl rfl rfl rfl rfl rfl rfl rfl rfl ?_ ?_ (λ_=>rfl) λa4 c4=>⟨_,(congrArg (λy=>lset _ 9 (ownA _ _ _ _ _ y)) (cellsE_snoc S.torn f.en)).trans rfl,(by first | exact trivial | (repeat' (first | exact trivial | refine⟨rfl,?_⟩))),?_⟩
   ·simp only[maxLen];omega
   ·omega
   rw[show S.torn.length+1=(S.torn++[f.en]).length from by simp];refine J.q hX λ_=>?_;refine J.cb hX (f13_held ah (normI S.held).length ch (normI S.held) rfl (by omega) ai I.length ci I rfl (by omega) k) [10,6] ?_;rintro v As ⟨a5,c5,rfl,rfl⟩;refine⟨_,rfl,trivial,?_⟩;rw[hheld,<- e1,<- e2,<- e3,<- e4];refine J.q hX λ_=>?_;refine J.nS ((k+1,(a4,c4),(a5,c5),(ao,co))) (by dsimp only;omega) (by dsimp only;omega) [0,1,2,3,4,5,6,7,8,9,10,11] rfl rfl
  ·rw[if_neg (by rw[h11];exact Bool.false_ne_true)]at hstep;have e1:=congrArg Sst.tb hstep;have e2:=congrArg Sst.torn hstep;have e3:=congrArg Sst.held hstep;have e4:=congrArg Sst.others hstep;dsimp only at e1 e2 e3 e4;refine J.q hX λ_=>?_;refine J.val hX (enV f.en) 0 rfl rfl (λhg a w he hs=>loadN_run tk rfl rfl he rfl rfl rfl (hs.get (i:=8) rfl) (by rw[show 0+(k:Int).toNat*25+0=k*25 from by omega];exact cellsF_en hbk) rfl) rfl trivial ?_;refine J.q hX λ_=>?_;refine J.append hX tk 11 12 0 rfl rfl rfl rfl rfl rfl rfl rfl rfl rfl rfl rfl rfl rfl rfl rfl ?_ ?_ (λ_=>rfl) λa4 c4=>⟨_,(congrArg (λy=>lset _ 11 (ownA _ _ _ _ _ y)) (cellsE_snoc S.others f.en)).trans rfl,trivial,?_⟩
   ·simp only[maxLen];omega
   ·omega
   rw[show S.others.length+1=(S.others++[f.en]).length from by simp,<- e1,<- e2,<- e3,<- e4];refine J.q hX λ_=>?_;refine J.nS ((k+1,(at_,ct),(ah,ch),(a4,c4))) (by dsimp only;omega) (by dsimp only;omega) [0,1,2,3,4,5,6,7,8,9,10,11] rfl rfl
 simp only[decide_eq_false_iff_not,Int.ofNat_lt]at h8;obtain rfl:k=m:=by omega
 have hsc:V.scan N n=⟨(V.goS N L n k).tb,(V.goS N L n k).torn++(V.goS N L n k).others,(V.goS N L n k).torn.length,normI (V.goS N L n k).held,V.nextOf L,L.length⟩:=by
  unfold V.scan V.scanOf;rw[hsz,<- hL];rfl
 obtain⟨S,hSS⟩:∃S,V.goS N L n k=S:=⟨_,rfl⟩;rw[hSS]at hgl hgh hnl hsc;rw[hSS];refine J.q hX λ_=>?_;refine J.appendO hX tk 9 11 rfl rfl rfl rfl rfl rfl rfl rfl rfl rfl rfl rfl rfl (cellsE_one _) ?_ ?_ (λ_=>rfl) λa6 c6=>⟨_,(congrArg (λy=>lset _ 9 (ownA _ _ _ _ _ y)) (cellsE_app S.torn S.others)).trans rfl,trivial,?_⟩
 ·simp only[maxLen];omega
 ·omega
 rw[show S.torn.length+S.others.length=(S.torn++S.others).length from by simp];refine J.q hX λ_=>?_;refine J.ru hX [1,3,9,10] ?_;rw[hsc];exact⟨q,a6,c6,ah,ch,rfl,rfl⟩
theorem s_SweepCut (g0 g1 g2 cn oi ki:Int) (A:Atom):
  Fn Tryz.prog 12 [.agg #[.int .i64 g0, .int .i64 g1, .int .i64 g2], .int .i64 cn, .int .i64 oi, .int .i64 ki] [A] (λv As=>v= .bool true/\As=[A]):=by
 refine Fn.enter [0,0,0,0] Tryz.func12 rfl rfl rfl λX F hX=>?_;refine J.q hX λ_=>?_;refine J.cb hX (l18_begun) [] ?_;refine cpq ⟨_,rfl,trivial,?_⟩;refine J.q hX λ_=>?_;refine J.cF ?_;refine J.q hX λ_=>?_;refine J.cb hX (l6_Geo g0 g1 g2) [] ?_;rintro v As ⟨D,B,P,rfl,hD,hB,hP,rfl⟩;refine⟨_,rfl,trivial,?_⟩;have hgm:geoMay D B P=true:=by simp[geoMay];omega
 refine J.q hX λ_=>?_;refine J.cb hX (l18_bench D B P hgm 500) [] ?_;rintro v As ⟨n,t,l,q,rfl,rfl⟩;refine⟨_,rfl,trivial,?_⟩;have hPk:P*(D-1)<=8*5:=Nat.mul_le_mul hP.2 (by omega);have hPk0:2*2<=P*(D-1):=Nat.mul_le_mul hP.1 (by omega);obtain⟨M,hM⟩:∃M,P*(D-1)=M:=⟨_,rfl⟩;have hMi:(P:Int)*((D:Int)-1)=(M:Int):=by rw[<- hM];push_cast [show 1<=D by omega];rfl
 rw[hM]at hPk hPk0;have hr1:=tm_bd cn ((P:Int)*((D:Int)-1)) (by omega);have hr2:=tm_2 cn ((P:Int)*((D:Int)-1)) (by omega);refine J.q hX λ_=>?_;refine J.plan (.of [0,4,9,12,16,20,24,29,32,36,40,44,49,52,56,60,64,68]) [17] [2] (by rw[hX.hP];kernel_rfl) (by kernel_rfl) ?_;refine J.q hX λ_=>?_;obtain⟨w,hw,hw1⟩:∃w:Nat,1+(cn.tmod ((P:Int)*((D:Int)-1))+(P:Int)*((D:Int)-1)).tmod ((P:Int)*((D:Int)-1))=(w:Int)/\1<=w/\w<=M:=
  ⟨(1+(cn.tmod ((P:Int)*((D:Int)-1))+(P:Int)*((D:Int)-1)).tmod ((P:Int)*((D:Int)-1))).toNat,by omega,by omega⟩
 rw[hw];have hO0:(Dv.new D B P 500).Ok (1280*60+(Dv.costC+(96+0))) 0:=Dv.Ok.new D B P 500 hgm _ (by decide);refine J.q hX λ_=>?_;refine J.lo (α:=(Nat×Nat×Dv)) (λz=>CcS D B P w z.1 z.2.1 z.2.2/\z.2.1<=z.1/\z.2.2.Ok (1280*(60-z.1)+(Dv.costC+(96+0))) 0) (λz=>[⟨15, .int .i64 z.1,0, .tt⟩,⟨1, .int .i64 w,0, .tt⟩,⟨14, .int .i64 ((D:Int)-1),0, .tt⟩,⟨2, .int .i64 oi,0, .tt⟩,⟨3, .int .i64 ki,0, .tt⟩,⟨10, .pointer (some ⟨n,0,none⟩),0, .tt⟩,⟨11, .pointer (some ⟨t,0,none⟩),0, .tt⟩,⟨12, .pointer (some ⟨l,0,none⟩),0, .tt⟩,⟨13, .pointer (some ⟨q,0,none⟩),0, .tt⟩]) [3,4,5,6] (λz=>DvP q n t l z.2.2) (λz=>w-z.1) ((0,0,Dv.new D B P 500)) (⟨CcS.new D B P w,Nat.le_refl _,hO0⟩) rfl ?_ (λ_=>rfl) λz hI=>?_
 ·rfl
 obtain⟨i,r,S⟩:=z;dsimp only at hI ⊢;obtain⟨hS,hri,hO⟩:=hI;have hij:i<=w:=by have:=hS.ii;omega
 refine J.q hX λ_=>?_;refine J.cond rfl (λh3=>?_) (λh3=>?_)
 ·simp only[decide_eq_true_eq,Int.ofNat_lt]at h3;have hO1:S.Ok (8*Dv.fuel+(1280*(60-(i+1))+(Dv.costC+(96+0)))) 0:=hO.less (by unfold Dv.fuel;omega);obtain⟨V,v1,v2,v3⟩:=hS.step hO1 (by omega) h3;refine J.q hX λ_=>?_;refine J.turn1 [] rfl (As:=[ownA 38 19 none 0 0 (cellsE [])]) (λh s=>Sep.one ⟨rfl,rfl,rfl⟩) rfl ?_;refine J.q hX λ_=>?_;refine J.lo (α:=(Nat×Option Nat×Nat)) (λz=>i+z.1<=w/\z.1<=D-1) (λz=>[⟨17, .int .i64 ((i+z.1:Nat):Int),0, .tt⟩,⟨16,slv z.2.1 (eL i z.1).length z.2.2,0, .tt⟩,⟨15, .int .i64 i,0, .tt⟩,⟨1, .int .i64 w,0, .tt⟩,⟨14, .int .i64 ((D:Int)-1),0, .tt⟩,⟨2, .int .i64 oi,0, .tt⟩,⟨3, .int .i64 ki,0, .tt⟩,⟨10, .pointer (some ⟨n,0,none⟩),0, .tt⟩,⟨11, .pointer (some ⟨t,0,none⟩),0, .tt⟩,⟨12, .pointer (some ⟨l,0,none⟩),0, .tt⟩,⟨13, .pointer (some ⟨q,0,none⟩),0, .tt⟩]) [7] (λz=>[ownA 38 19 z.2.1 (eL i z.1).length z.2.2 (cellsE (eL i z.1))]) (λz=>D-1-z.1) ((0,none,0)) (⟨hij,Nat.zero_le _⟩) rfl ?_ (λ_=>rfl) λz hI=>?_
  ·rfl
  obtain⟨j,ga,ca⟩:=z;dsimp only at hI ⊢;have hel:=eL_len i j;refine J.q hX λ_=>?_;refine J.cond rfl (λh2=>?_) (λh2=>?_)
  ·simp only[Bool.and_eq_true,decide_eq_true_eq]at h2;have hsu:eL i (j+1)=eL i j++[e18 ((i+j:Nat):Int) (((i+j:Nat):Int)+1)]:=by rw[eL_succ];push_cast;rfl
   refine J.q hX λ_=>?_;refine J.cb hX (l18_entry ((i+j:Nat):Int) (((i+j:Nat):Int)+1)) [] ?_;refine cpq ⟨_,rfl,trivial,?_⟩;refine J.q hX λ_=>?_;refine J.append hX tk 7 8 0 rfl rfl rfl rfl rfl rfl rfl rfl rfl rfl rfl rfl rfl rfl rfl rfl ?_ ?_ (λ_=>rfl) λa3 c3=>⟨_,(congrArg (λz=>lset _ 7 (ownA _ _ _ _ _ z)) (cellsE_snoc (eL i j) (e18 ((i+j:Nat):Int) (((i+j:Nat):Int)+1)))).trans rfl,trivial,?_⟩
   ·simp only[maxLen];omega
   ·omega
   rw[<- hsu,show(eL i j).length+1=(eL i (j+1)).length from by rw[hsu];simp];refine J.q hX λ_=>?_;rw[show((i+j:Nat):Int)+1=((i+(j+1):Nat):Int)from by omega];refine J.q hX λ_=>?_;refine J.nS ((j+1,a3,c3)) (⟨by dsimp only;omega,by dsimp only;omega⟩) (by dsimp only;omega) [0,1,2,3,4,5,6,7] rfl rfl
  have hj:min (D-1) (w-i)=j:=by
   simp only[Bool.and_eq_false_iff,decide_eq_false_iff_not]at h2;omega
  rw[hj]at v1 v2;refine J.q hX λ_=>?_;rw[slv_oad];refine J.q hX λ_=>?_;refine J.ca hX (by kernel_rfl) (pn_Write q n t l S _ 0 hO1 (ownA 38 19 ga (eL i j).length ca (cellsE (eL i j))) (oad ga) (eL i j).length ca (eL i j) (own_rd 38 19 ga (eL i j).length ca (cellsE (eL i j))) rfl (by omega) (eL_data _ _)) [3,4,5,6,7] 0 rfl rfl rfl rfl rfl rfl (λ_=>rfl) ?_;refine cpq ⟨_,rfl,trivial,?_⟩;rw[v1,hel];dsimp only;refine J.qn hX 19 λ_=>?_;rw[ne_selfI (j:Int)];refine J.q hX λ_=>?_;refine J.cF ?_;refine J.q hX λ_=>?_;rw[show(i:Int)+(j:Int)=((i+j:Nat):Int)from by omega];refine J.q hX λ_=>?_;refine J.nS ((i+j,r+1,V)) (⟨v2,by dsimp only;omega,v3.less (by dsimp only;omega)⟩) (by dsimp only;omega) [0,1,2,3,4,5,6] rfl rfl
 simp only[decide_eq_false_iff_not,Int.ofNat_lt]at h3;obtain rfl:i=w:=by omega
 clear h3;have ho1:=tm_bd oi 60 (by decide);have ho2:=tm_2 oi 60 (by decide);obtain⟨c,hc⟩:=Int.eq_ofNat_of_zero_le ho2.1;rw[hc]at ho2;obtain⟨U,m,e,u1,u2,u3,u4⟩:=hS.cut (k:=0) (m:=0) (hO.less (by omega)) (by omega) hS.rp (c:=c) (by omega) ki;refine J.q hX λ_=>?_;rw[hc];refine J.q hX λ_=>?_;refine J.cb hX (n_Cut n S.N c ki) [4] ?_;refine cpq ⟨_,rfl,trivial,?_⟩;refine J.q hX λ_=>?_;refine J.cb hX (sw_Carry n t l q ({S with N:=S.N.setCut c ki}:Dv) (96+0) 0 u1 0 100) [3,4,5,6] ?_;refine cpq ⟨_,rfl,trivial,?_⟩;rw[u2];dsimp only;refine J.q hX λ_=>?_;refine J.join (α:={M:Nand//CcS.Fin i M/\M.Gd 0 0}) (λ_=>[⟨1, .int .i64 i,0, .tt⟩,⟨10, .pointer (some ⟨n,0,none⟩),0, .tt⟩]) (λx=>[.hp F,A,NandA n x.1]) (λhj=>?_) (λx=>?_)
 ·rcases u4 with⟨rfl,f1,f2⟩ | ⟨rfl,f1⟩
  ·refine J.q hX λ_=>?_;refine J.cT ?_;refine J.q hX λ_=>?_;refine J.cb hX (pn_Open q n t l U) [3] ?_;refine cpq ⟨_,rfl,trivial,?_⟩;refine J.q hX λ_=>?_;refine J.cb hX (sw_Clear n t l U.N U.t U.T 0 0 u3.gd (by decide) u3.t U.op) [4,5,6] ?_;refine cpq ⟨_,rfl,trivial,?_⟩;refine J.qn hX 1 λ_=>?_;exact J.goto [0,1,4] (hj ⟨U.clear.1.N,f1,f2⟩) ⟨rfl,rfl,trivial⟩ rfl rfl
  ·refine J.q hX λ_=>?_;refine J.cF ?_;refine J.qn hX 1 λ_=>?_;exact J.goto [0,1,4] (hj ⟨U.N,f1,u3.gd.less (Nat.zero_le _) (Nat.le_refl _)⟩) ⟨rfl,rfl,trivial⟩ rfl rfl
 obtain⟨M2,⟨hbr,hfi⟩,hgd⟩:=x;dsimp only;refine J.q hX λ_=>?_;refine J.cb hX (n_On n M2) [2] ?_;refine cpq ⟨_,rfl,trivial,?_⟩;obtain⟨m5,hm5⟩:∃m5:Nat,m5=500:=⟨_,rfl⟩;refine J.q hX λ_=>?_;refine J.cb hX (f13_Scan n M2.onN hgd.on.ok hgd.on.room 500 m5 (by omega)) [2] ?_;rintro v As ⟨q2,a3,c3,a4,c4,rfl,rfl⟩;refine⟨_,rfl,trivial,?_⟩;have hbr2:M2.onN.broken=0:=hbr;have hok2:=hgd.on.ok;have hrm2:=hgd.on.room;have hoff2:M2.onN.off=false:=rfl;generalize V.scan M2.onN 500=Z at hfi;generalize M2.onN=M3 at hfi hbr2 hok2 hrm2 hoff2;refine J.q hX λbs=>?_;refine J.open_ (α:=Nat) 3 rfl rfl (λ_=>rfl) λg=>?_;refine J.q hX λ_=>?_;refine J.lo (α:=Nat) (λu=>u<=i) (λu=>[⟨23, .int .i64 u,0, .tt⟩,⟨22, .pointer (some ⟨bs 0,0,none⟩),7, .tt⟩,⟨1, .int .i64 i,0, .tt⟩,⟨10, .pointer (some ⟨n,0,none⟩),0, .tt⟩]) [] (λu=>[]) (λu=>i-u) (0) (Nat.zero_le _) rfl ?_ (λ_=>rfl) λu hI=>?_
 ·rfl
 refine J.q hX λ_=>?_;refine J.cond rfl (λh4=>?_) (λh4=>?_)
 ·simp only[decide_eq_true_eq,Int.ofNat_lt]at h4;obtain⟨x,y,x1,x2,x3,x4,x5⟩:=hfi u h4;obtain⟨xb,xr,xl,xm,xs,xo⟩:=x;obtain⟨yl,ys,yr,yd⟩:=y;dsimp only at x2 x3 x4 x5;subst x3 x4 x5;have hc:=stC_at Z.tb.at_ (m:=m5) (i:=u) (by omega);rw[x1]at hc;refine J.q hX λ_=>?_;refine J.val hX (.slice (some ⟨g,0,none⟩) m5 m5) 0 rfl rfl (λhg a w he hs=>load1_run tk rfl rfl he rfl rfl rfl (hs.get (i:=3) rfl) rfl) rfl trivial ?_;refine J.q hX λ_=>?_;refine J.val hX (.agg (stL (some ⟨xb,xr,xl,xm,xs,xo⟩)).toArray) 0 rfl rfl (λhg a w he hs=>loadN_run tk rfl rfl he hg rfl rfl (hs.get (i:=7) rfl) (by rw[show 0+(u:Int).toNat*7=u*7 from by omega];exact hc) rfl) rfl trivial ?_;refine J.q hX λ_=>?_;refine J.cF ?_;refine J.q hX λ_=>?_;refine J.cb hX (f9_Read n M3 hok2 hrm2 hoff2 xb xr xl xm) [2] ?_;refine cpq ⟨_,rfl,trivial,?_⟩;rw[x2];dsimp only;refine J.q hX λ_=>?_;refine J.plan (.of [0,4,8,13,16,20,24,30,34,36,40]) [] [9] (by rw[hX.hP];kernel_rfl) (by kernel_rfl) ?_;refine J.q hX λ_=>?_;refine J.cb hX (l18_entry u (u+1)) [] ?_;refine cpq ⟨_,rfl,(by first | exact trivial | (repeat' (first | exact trivial | refine⟨rfl,?_⟩))),?_⟩;refine J.q hX λ_=>?_;refine J.cb hX (l18_alike u ys ((u:Int)+1) 1 (e18 (u:Int) ((u:Int)+1)).data rfl) [] ?_;refine cpq ⟨_,rfl,(by first | exact trivial | (repeat' (first | exact trivial | refine⟨rfl,?_⟩))),?_⟩;refine J.q hX λ_=>?_;refine J.cF ?_;refine J.q hX λ_=>?_;refine J.nS (u+1) (by omega) (by omega) [0,1,2,3,4,5,6,7] rfl rfl
 refine J.q hX λ_=>?_;refine J.cb hX (n_Broken n M3) [2] ?_;refine cpq ⟨_,rfl,trivial,?_⟩;rw[hbr2];refine J.q hX λ_=>?_;exact J.ru hX [1] ⟨rfl,rfl⟩
end Go.Proofs.YtdocmcapegcoeaaGreat
namespace Go.Proofs.YtdocmcapegcoeaaGreat
open Go
theorem andT {a b:Bool} (ha:a=true) (hb:b=true):(a&&b)=true:=by rw[ha,hb];rfl
theorem joined_of {P:Program} {f:FuncId} {fn:Func} {s:ChangeSpec} {c:OpenClaim} (k0:(c.wf (OpenSpec.ofChange s))=true) (k1:(laidOutB P)=true) (k2:(mapsRowed P)=true) (k3:(fn.params.all (P.readableRec ·))=true) (k4:(namedTie P c.named s.vars)=true) (k5:(c.stops==[])=true) (k6:(P.stops==[])=true) (k7:(c.knobs==[])=true) (k8:(P.stopKnobs==[])=true) (k9:(c.inPlace==P.inPlace f)=true) (k10:(c.unfollowed==P.unfollowed f)=true) (k11:(c.recurses==P.recurses f)=true) (k12:(c.named==P.varsNamed f)=true) (k13:(c.maps==(fn.params.toList++s.plain.varTypes P).any (P.mapsRec ·))=true) (k14:(c.ifaces==(fn.params.toList++s.plain.varTypes P).any (P.ifacesRec ·))=true) (k15:(c.mapsOut==P.mapsAmong fn.resultTypes.toList)=true) (k16:(c.loops==(fn.params.toList++s.plain.varTypes P).any (P.loopsFrom ·))=true) (k17:(c.wideKeys==(fn.params.toList++s.plain.varTypes P++fn.resultTypes.toList).any (P.wideKeysFrom ·))=true) (k18:(s.vars.all (P.varReadable ·))=true) (k19:(fn.resultTypes.all (λt=>P.readableRec t&&decide (t<P.types.size)))=true) (k20:(c.ifacesOut==fn.resultTypes.toList.any (P.ifacesRec ·))=true) (k21:(c.loopsOut==fn.resultTypes.toList.any (P.loopsFrom ·))=true) (k22:(c.plainKeys==P.plainKeys)=true) (k23:(c.shortTexts.isNone)=true) (k24:(P.stopsHeard)=true) (k25:(P.mayEnter)=true) (k26:(c.lifted==P.liftsFinal)=true) (k27:(P.make==some c.make)=true) (k28a:c.domain.isEmpty=true) (k28:(c.kinds==[])=true) (k29:(c.pinned==c.pinnedBy)=true) (k30:(c.veiled==(fn.params.toList++s.plain.varTypes P++fn.resultTypes.toList).any (P.veiledRec ·))=true) (k31:(c.veiledFits P fn.params.toList (fn.params.toList++s.plain.varTypes P++fn.resultTypes.toList))=true):joinedFacts P f fn s c=true:=by
 unfold joinedFacts;rw[if_pos k28a];exact(andT (andT (andT (andT (andT (andT (andT (andT (andT (andT (andT (andT (andT (andT (andT (andT (andT (andT (andT (andT (andT (andT (andT (andT (andT (andT (andT (andT (andT (andT (andT k0 k1) k2) k3) k4) k5) k6) k7) k8) k9) k10) k11) k12) k13) k14) k15) k16) k17) k18) k19) k20) k21) k22) k23) k24) k25) k26) k27) k28) k29) k30) k31)
theorem j_laid:laidOutB Tryz.prog=true:=by kernel_rfl
theorem j_rowed:mapsRowed Tryz.prog=true:=by kernel_rfl
theorem j_stops:(Tryz.prog.stops==[])=true:=by kernel_rfl
theorem j_knobs:(Tryz.prog.stopKnobs==[])=true:=by kernel_rfl
theorem j_heard:Tryz.prog.stopsHeard=true:=by kernel_rfl
theorem j_enter:Tryz.prog.mayEnter=true:=by kernel_rfl
end Go.Proofs.YtdocmcapegcoeaaGreat
