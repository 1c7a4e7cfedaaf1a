/- Helpers. No condition. -/
import Derived.Test.YtpohajhbfllbbaaGreatD12
import Derived.Test.YtpohajhbfllbbaaGreatD15
import Derived.Test.YtpohajhbfllbbaaGreatD16
set_option maxRecDepth 20000
set_option linter.all false
namespace Go.Proofs.YtpohajhbfllbbaaGreat
structure Scd where
 tb:Tb
 torn:List En
 first:Nat
 held:List Int
 next:Int
 pages:Nat
structure Sst where
 tb:Tb
 torn:List En
 held:List Int
 others:List En
namespace V
def nextOf (l:List Fnd):Int:=l.foldl (λm f=>max m (f.en.seq+1)) 1
def step (N:Nand) (L:List Fnd) (s:Sst) (k:Nat):Sst:=
 if(standOf (of L k)).2=true then
  if(standOf (of L k)).1.whole=true then {s with tb:=s.tb.put (standOf (of L k)).1.en (standOf (of L k)).1.block (standOf (of L k)).1.row (standOf (of L k)).1.slot (standOf (of L k)).1.mask}
  else if last N (standOf (of L k)).1=true then⟨s.tb.put (standOf (of L k)).1.en (standOf (of L k)).1.block (standOf (of L k)).1.row (standOf (of L k)).1.slot (standOf (of L k)).1.mask,s.torn++[(standOf (of L k)).1.en],s.held++holds (of L k),s.others⟩
  else⟨s.tb.put (standOf (of L k)).1.en (standOf (of L k)).1.block (standOf (of L k)).1.row (standOf (of L k)).1.slot (standOf (of L k)).1.mask,s.torn,s.held,s.others++[(standOf (of L k)).1.en]⟩
 else s
def goS (N:Nand) (L:List Fnd) (n:Int) (k:Nat):Sst:=(List.range k).foldl (step N L) ⟨Tb.new n,[],[],[]⟩
def size (n:Int):Nat:=(min (max n 0) 65536).toNat
def scanOf (N:Nand) (L:List Fnd) (n:Int):Scd:=⟨(goS N L n (size n)).tb,(goS N L n (size n)).torn++(goS N L n (size n)).others,(goS N L n (size n)).torn.length,n7 (I0 (goS N L n (size n)).held),nextOf L,L.length⟩
def scan (N:Nand) (n:Int):Scd:=scanOf N (all N) n
theorem goS_succ (N:Nand) (L:List Fnd) (n:Int) (k:Nat):goS N L n (k+1)=step N L (goS N L n k) k:=by unfold goS;rw[List.range_succ,List.foldl_append];rfl
theorem step_tb (N:Nand) (L:List Fnd) (s:Sst) (k:Nat):(step N L s k).tb=s.tb\/(standOf (of L k)).2=true/\(step N L s k).tb=s.tb.put (standOf (of L k)).1.en (standOf (of L k)).1.block (standOf (of L k)).1.row (standOf (of L k)).1.slot (standOf (of L k)).1.mask:=by
 unfold step;split
 ·right;rename_i h;refine⟨h,?_⟩;split
  ·rfl
  ·split<;>rfl
 ·left;rfl
theorem goS_ok (N:Nand) (L:List Fnd) (n:Int):∀k,(goS N L n k).tb.Ok
 | 0=>Tb.Ok.new n
 | k+1=>by
  rw[goS_succ];rcases step_tb N L (goS N L n k) k with h | ⟨_,h⟩
  ·rw[h];exact goS_ok N L n k
  ·rw[h];exact(goS_ok N L n k).put _ _ _ _ _
theorem goS_log (N:Nand) (L:List Fnd) (n:Int):∀k,(goS N L n k).tb.logical=min (max n 0) 65536
 | 0=>rfl
 | k+1=>by
  rw[goS_succ];rcases step_tb N L (goS N L n k) k with h | ⟨_,h⟩
  ·rw[h];exact goS_log N L n k
  ·rw[h,Tb.put_logical];exact goS_log N L n k
theorem tops_mem {l:List Fnd} {f:Fnd}:f∈tops l->f∈l:=by
 have:∀k,k<=l.length->∀f∈tops (l.take k),f∈l:=by
  intro k
  induction k with
  | zero=>intro _ f hf;simp[tops]at hf
  | succ k ih=>
   intro hk f hf;rw[a0U (List.getElem?_eq_getElem (by omega))]at hf;have ih:=ih (by omega);have hx:l[k]∈l:=List.getElem_mem _
   revert hf ih
   generalize tops (l.take k)=o;intro hf ih;cases o with
   | nil=>simp[topsStep]at hf;rw[hf];exact hx
   | cons h t=>
    simp only[topsStep]at hf;split at hf
    ·simp at hf;rw[hf];exact hx
    ·split at hf
     ·exact ih f hf
     ·rw[List.mem_append]at hf;rcases hf with hf | hf
      ·exact ih f hf
      ·simp at hf;rw[hf];exact hx
 intro h;refine this l.length (Nat.le_refl _) f ?_
 rwa [List.take_length]
theorem standOf_mem {l:List Fnd} (h:(standOf l).2=true):(standOf l).1∈l:=by
 have hm:∀f,f∈tops l->f∈l:=λf=>tops_mem
 revert h
 unfold standOf;cases ht:tops l with
 | nil=>intro h;cases h
 | cons f o=>intro _;exact hm f (by rw[ht];exact List.mem_cons_self ..)
theorem of_len (L:List Fnd) (k:Int):(of L k).length<=L.length:=List.length_filter_le _ _
theorem holds_len (l:List Fnd):(holds l).length<=l.length:=by
 unfold holds;rw[List.length_map];exact Nat.le_trans (a2l _) (List.length_filter_le _ _)
theorem of_sum (L:List Fnd):∀k,((List.range k).map λi:Nat=>(of L (i:Int)).length).sum<=L.length:=by
 intro k
 induction L with
 | nil=>
  have:∀k:Nat,((List.range k).map λi:Nat=>(of [] (i:Int)).length).sum=0:=λk=>by
   induction k with
   | zero=>rfl
   | succ k ih=>rw[List.range_succ,List.map_append,List.sum_append,ih];rfl
  rw[this];exact Nat.zero_le _
 | cons x L ih=>
  have h1:∀i:Nat,(of (x::L) (i:Int)).length=(of L (i:Int)).length+(if x.en.lpn=(i:Int)then 1 else 0):=by
   intro i;unfold of;rw[List.filter_cons];split
   ·rename_i h;simp only[beq_iff_eq]at h;rw[if_pos h,List.length_cons]
   ·rename_i h;simp only[beq_iff_eq]at h;rw[if_neg h];rfl
  have h2:∀k,((List.range k).map λi:Nat=>(of (x::L) (i:Int)).length).sum<=((List.range k).map λi:Nat=>(of L (i:Int)).length).sum+(if 0<=x.en.lpn/\x.en.lpn<(k:Int)then 1 else 0):=by
   intro k
   induction k with
   | zero=>simp
   | succ k ih=>
    rw[List.range_succ,List.map_append,List.sum_append,List.map_append,List.sum_append];simp only[List.map_cons,List.map_nil,List.sum_cons,List.sum_nil,Nat.add_zero];rw[h1];split at ih<;>split<;>split<;>omega
  have:=h2 k;rw[List.length_cons];split at this<;>omega
theorem goS_len (N:Nand) (L:List Fnd) (n:Int):∀k,(goS N L n k).torn.length<=k/\(goS N L n k).others.length<=k/\(goS N L n k).held.length<=((List.range k).map λi:Nat=>(of L (i:Int)).length).sum
 | 0=>by simp[goS]
 | k+1=>by
  have ih:=goS_len N L n k;have hh:=holds_len (of L k);rw[goS_succ,List.range_succ,List.map_append,List.sum_append];simp only[List.map_cons,List.map_nil,List.sum_cons,List.sum_nil,Nat.add_zero];unfold step;split
  ·split
   ·dsimp only;omega
   ·split
    ·simp only[List.length_append,List.length_cons,List.length_nil];omega
    ·simp only[List.length_append,List.length_cons,List.length_nil];omega
  ·omega
theorem goS_held (N:Nand) (L:List Fnd) (n:Int) (k:Nat):(goS N L n k).held.length<=L.length:=Nat.le_trans (goS_len N L n k).2.2 (of_sum L k)
theorem nextOf_snoc (l:List Fnd) (f:Fnd):nextOf (l++[f])=max (nextOf l) (f.en.seq+1):=by unfold nextOf;rw[List.foldl_append];rfl
theorem of_snoc (l:List Fnd) (f:Fnd) (k:Int):of (l++[f]) k=if f.en.lpn=k then of l k++[f]else of l k:=by
 unfold of;rw[List.filter_append,List.filter_cons]
 by_cases h:f.en.lpn=k
 ·rw[if_pos h,if_pos (by simpa using h)];rfl
 ·rw[if_neg h,if_neg (by simpa using h)];simp
def upB (N:Nand) (b:Nat):List Fnd:=(List.range b).flatMap λb=>(List.range N.pages).flatMap λr=>R.all N (b:Nat) (r:Nat)
def upR (N:Nand) (b r:Nat):List Fnd:=upB N b++(List.range r).flatMap λr=>R.all N (b:Nat) (r:Nat)
def upI (N:Nand) (b r i:Nat):List Fnd:=upR N b r++(R.all N (b:Nat) (r:Nat)).take i
theorem upR_zero (N:Nand) (b:Nat):upR N b 0=upB N b:=by simp[upR]
theorem upI_zero (N:Nand) (b r:Nat):upI N b r 0=upR N b r:=by simp[upI]
theorem upR_succ (N:Nand) (b r:Nat):upR N b (r+1)=upI N b r (R.all N (b:Nat) (r:Nat)).length:=by
 unfold upI upR;rw[List.take_length,List.range_succ,List.flatMap_append,List.append_assoc];simp
theorem upB_succ (N:Nand) (b:Nat):upB N (b+1)=upR N b N.pages:=by
 unfold upR upB;rw[List.range_succ,List.flatMap_append];simp
theorem upB_all (N:Nand):upB N N.blocks=all N:=rfl
theorem upI_succ {N:Nand} {b r i:Nat} {x:Fnd} (h:(R.all N (b:Nat) (r:Nat))[i]? =some x):upI N b r (i+1)=upI N b r i++[x]:=by
 unfold upI;rw[List.take_add_one,h,Option.toList_some,List.append_assoc]
theorem nextOf_bd {l:List Fnd} (h:∀f∈l,a1o f.en):1<=nextOf l/\nextOf l<=1099511627776:=by
 have:∀(l:List Fnd) (m:Int),(∀f∈l,a1o f.en)->1<=m->m<=1099511627776->1<=l.foldl (λm f=>max m (f.en.seq+1)) m/\l.foldl (λm f=>max m (f.en.seq+1)) m<=1099511627776:=by
  intro l
  induction l with
  | nil=>intro m _ h1 h2;exact⟨h1,h2⟩
  | cons x l ih=>
   intro m hl h1 h2;have:=hl x (List.mem_cons_self ..);unfold a1o at this;exact ih (max m (x.en.seq+1)) (λf hf=>hl f (List.mem_cons_of_mem _ hf)) (by omega) (by omega)
 exact this l 1 h (by omega) (by omega)
end V
end Go.Proofs.YtpohajhbfllbbaaGreat
namespace Go.Proofs.YtpohajhbfllbbaaGreat
def a4o (l:List Int):List Int:=n7 (I0 l)
theorem U4:∀(l:List Int) (p:Int),(p::l).Pairwise (· <= ·)->(r9 p l).Pairwise (· < ·)/\(∀c∈r9 p l,p<c)/\∀c,c∈r9 p l\/c=p↔c∈l\/c=p
 | [],p,_=>by simp[r9]
 | x::l,p,h=>by
  have h1:=List.pairwise_cons.1 h;simp only[r9]
  by_cases e:x=p
  ·subst e;obtain⟨a,b,c⟩:=U4 l x h1.2;rw[if_pos rfl];refine⟨a,b,λd=>?_⟩;rw[c d,List.mem_cons];constructor
   ·rintro(h | h)<;>simp[h]
   ·rintro((h | h) | h)<;>simp[h]
  ·obtain⟨a,b,c⟩:=U4 l x h1.2;have hx:p<x:=by have:=h1.1 x (List.mem_cons_self ..);omega
   rw[if_neg e];refine⟨List.pairwise_cons.2 ⟨b,a⟩,λd hd=>?_,λd=>?_⟩
   ·rcases List.mem_cons.1 hd with rfl | hd
    ·exact hx
    ·have:=b d hd;omega
   ·have:=c d;rw[List.mem_cons,List.mem_cons];constructor
    ·rintro((h | h) | h)
     ·simp[h]
     ·rcases this.1 (.inl h)with h | h<;>simp[h]
     ·simp[h]
    ·rintro((h | h) | h)
     ·simp[h]
     ·rcases this.2 (.inl h)with h | h<;>simp[h]
     ·simp[h]
theorem a5b (l:List Int):(I0 l).Pairwise (· <= ·):=by
 have:=List.pairwise_mergeSort (le:=leI) (λa b c h1 h2=>by simp only[leI,decide_eq_true_eq]at*;omega) (λa b=>by simp only[leI,Bool.or_eq_true,decide_eq_true_eq];omega) l;exact this.imp (λh=>by simpa[leI]using h)
theorem a9h (l:List Int) (c:Int):c∈I0 l↔c∈l:=List.mem_mergeSort
theorem a7y (l:List Int):(a4o l).Pairwise (· < ·)/\∀c,c∈a4o l↔c∈l:=by
 have hs:=a5b l;have hm:=a9h l;unfold a4o
 revert hs hm
 cases I0 l with
 | nil=>intro _ hm;exact⟨by simp[n7],λc=>by rw[<- hm c];simp[n7]⟩
 | cons x m=>
  intro hs hm;obtain⟨a,b,c⟩:=U4 m x hs;refine⟨List.pairwise_cons.2 ⟨b,a⟩,λd=>?_⟩;rw[<- hm d];show d∈x::r9 x m↔_;rw[List.mem_cons,List.mem_cons];have:=c d;constructor
  ·rintro(h | h)
   ·simp[h]
   ·rcases this.1 (.inl h)with h | h<;>simp[h]
  ·rintro(h | h)
   ·simp[h]
   ·rcases this.2 (.inl h)with h | h<;>simp[h]
theorem a4n:a4o []=[]:=by have:=(a7y []).2;exact List.eq_nil_iff_forall_not_mem.2 (λc hc=>by simpa using(this c).1 hc)
theorem a9x (l:List Int):(a4o l).length<=l.length:=by
 have h:∀(l:List Int),(n7 l).length<=l.length:=λl=>by
  have:∀(l:List Int) (p:Int),(r9 p l).length<=l.length:=λl=>by
   induction l with
   | nil=>intro p;simp[r9]
   | cons x l ih=>intro p;simp only[r9];split<;>simp only[List.length_cons]<;>have:=ih x<;>have:=ih p<;>omega
  cases l with
  | nil=>simp[n7]
  | cons x l=>have:=this l x;simp only[n7,List.length_cons];omega
 have:=h (I0 l);rw[R0]at this;exact this
namespace V
theorem standOf_nil:standOf []=(Fnd.zero,false):=rfl
end V
end Go.Proofs.YtpohajhbfllbbaaGreat
namespace Go.Proofs.YtpohajhbfllbbaaGreat
open Go
namespace Nand
variable {N N' N'' : Nand} {b : Nat}
end Nand
theorem a7D {N:Nand} {d b r:Int} (h:(N.blk d.toNat b.toNat).cells.length<=r.toNat):(M.look N d b r).2=2\/(M.look N d b r).2=4:=by
 have hp:N.pageAt d b r=none:=List.getElem?_eq_none h;have hr:N.refuses d b r=0\/N.refuses d b r=9\/N.refuses d b r=3\/N.refuses d b r=8:=by
  unfold Nand.refuses;split
  ·simp
  ·split
   ·simp
   ·split<;>simp
 have he:N.readE d b r=5\/N.readE d b r=9\/N.readE d b r=3\/N.readE d b r=8:=by
  unfold Nand.readE;rw[hp];rcases hr with e | e | e | e<;>rw[e]<;>simp
 unfold M.look;simp only;rcases he with e | e | e | e<;>rw[e]<;>simp
theorem b0n {N:Nand} {b r:Int} (h:∀d:Nat,(M.look N (d:Nat) b r).2≠1):R.all N b r=[]:=by
 have:(M.rowN N b r N.dies).filterMap M.maskOf=[]:=by
  refine List.filterMap_eq_nil_iff.2 λx hx=>?_;unfold M.rowN at hx;obtain⟨d,_,rfl⟩:=List.mem_map.1 hx;unfold M.maskOf;rw[if_neg (h d)]
 unfold R.all M.masks;rw[this];rfl
namespace V
end V
def u8 (x:Int):UInt8:=UInt8.ofNat (x % 256).toNat
namespace V
theorem look_put (t:Tb) (e:En) (b r s m:Int) (i:Int):Tb.look (t.put e b r s m).at_ i=if t.putB e=true/\i=e.lpn then some ⟨b,r,s,m,e.seq,e.role⟩else Tb.look t.at_ i:=by
 unfold Tb.put
 by_cases h:t.putB e=true
 ·rw[if_pos h];show Tb.look (Tb.put1 t.at_ e.lpn _) i=_;rw[Tb.look_put1]
  by_cases hi:i=e.lpn
  ·rw[if_pos hi,if_pos ⟨h,hi⟩]
  ·rw[if_neg hi,if_neg (λh=>hi h.2)]
 ·rw[if_neg h,if_neg (λh'=>h h'.1)]
end V
theorem a8t {l:List En} {next:Int} {n:Nat} {e:En} (h:e∈Dv.num l next n):(∃i,i<l.length/\i<n/\e={l.getD i En.zero with seq:=next+i})\/e=En.pad:=by
 simp only[Dv.num,List.mem_map,List.mem_range]at h;obtain⟨i,hi,rfl⟩:=h;unfold Dv.numAt;split
 ·rename_i h;exact .inl ⟨i,h,hi,rfl⟩
 ·exact .inr rfl
theorem b3S {l:List En} {next:Int} {n k:Nat} (hk:k<n):(Dv.num l next n).getD k En.zero=Dv.numAt l next k:=by
 unfold Dv.num;rw[List.getD_eq_getElem?_getD,List.getElem?_map,List.getElem?_range hk];rfl
theorem I3 {l:List En} {i:Nat} (h:i<l.length):l.getD i En.zero∈l:=by
 rw[List.getD_eq_getElem?_getD,List.getElem?_eq_getElem h];exact List.getElem_mem _
namespace Inv
variable {fd : Int} {S : Dv} {k m : Nat} {l : List En}
theorem opn (h:Inv fd S) (hl:S.left=true):Opn fd S:=by
 rcases h.op with e | e
 ·have:=Dv.left_spec hl;omega
 ·exact e
theorem rowIs (h:Inv fd S) (hO:S.Ok k m) (hl:S.left=true) (hf:∀e∈l,FitR e) (hn:¬S.next>1099511627775-(S.fit l:Int)+1):RowIs S.N S.op S.row S.mask (S.es l):=by
 have ho:=h.opn hl;have hs:=Dv.left_spec hl;have hg:=hO.gd.ok.bd16;have hx:=hO.next;obtain⟨m1,m2,m3,m4⟩:=ho.mask.slots hg.1;have hrow:=ho.row;have hblk:=ho.blk;refine⟨hg.1.2,ho.blk,⟨hrow.1,hs.2.1⟩,⟨m3,m4⟩,Dv.num_data (λe he=>(hf e he).len) _ _,?_⟩;unfold W.parB;have h1:decide (((S.es l).length:Int)=G.slots S.mask)=true:=by rw[Dv.es_len];exact decide_eq_true (by omega)
 have h2:(!(S.es l).isEmpty)=true:=by
  cases he:S.es l with
  | nil=>have:=Dv.es_len S l;rw[he]at this;simp at this;omega
  | cons x y=>rfl
 rw[h1,h2,Bool.true_and,Bool.true_and,List.all_eq_true];intro e he;rcases a8t he with⟨i,hi,hin,rfl⟩ | rfl
 ·have hfe:=hf _ (I3 hi);refine b4O ⟨hblk.1,by omega⟩ ⟨hrow.1,by omega⟩ m2 ⟨?_,?_⟩ (.inl ⟨hfe.lpn,hfe.role,hfe.len⟩)
  ·show 0<=S.next+(i:Int);omega
  ·show S.next+(i:Int)<=1099511627775;have:i<S.fit l:=by unfold Dv.fit;omega
   omega
 ·exact b4O ⟨hblk.1,by omega⟩ ⟨hrow.1,by omega⟩ m2 ⟨by decide,by decide⟩ (.inr rfl)
theorem fails_no (h:Inv fd S) {b r:Int} {d:Nat} (hd:(d:Int)≠fd):S.N.failB b r d=false/\S.N.fails d b r=false:=by
 have e1:=h.dead d hd;have e2:=(h.flags d b.toNat hd).1;have e3:S.N.fails d b r=false:=by
  unfold Nand.fails;rw[Int.toNat_natCast,e2,Bool.or_false];refine decide_eq_false λhm=>?_;exact hd (h.plan _ hm)
 refine⟨?_,e3⟩;unfold Nand.failB;rw[e3,Bool.or_false,Int.toNat_natCast,e1]
structure Turn (fd:Int) (S:Dv) (l:List En):Prop where
 inv:Inv fd (S.wrote l)
 full:Full fd (S.wrote l).N S.op S.row S.mask (S.es l)
 err:(S.wr l).2.2=if(S.wr l).2.1=0 then 0 else 7
 set:L.set (S.wr l).2.1=true
 only:∀d:Int,L.has (S.wr l).2.1 d=true->d=fd/\L.has S.mask fd=true
 fail:∀d:Nat,L.has S.mask (d:Nat)=true->L.has (S.wr l).2.1 (d:Nat)=S.N.failB S.op S.row d
 dead:(S.wrote l).N.dead=S.N.dead
 broken:(S.wrote l).N.broken=S.N.broken
 like:S.N.Like (S.wrote l).N
 plan:∀a∈(S.wrote l).N.plan,a∈S.N.plan
 rest:∀i j,j≠S.op.toNat->(S.wrote l).N.blk i j=S.N.blk i j
 flags:∀i j,((S.wrote l).N.blk i j).met=(S.N.blk i j).met/\((S.wrote l).N.blk i j).fails=(S.N.blk i j).fails/\((S.wrote l).N.blk i j).worn=(S.N.blk i j).worn
 ops:(S.wrote l).N.ops=S.N.ops+(((R.job S.op S.row S.mask (S.es l)).filter λx=>!S.N.dead.getD x.1.toNat false).length:Int)
theorem turn (h:Inv fd S) (hO:S.Ok k m) (hl:S.left=true) (hf:∀e∈l,FitR e) (hn:¬S.next>1099511627775-(S.fit l:Int)+1):Turn fd S l:=by
 have ho:=h.opn hl;have hs:=Dv.left_spec hl;have hg:=hO.gd.ok.bd16;have hR:=h.rowIs hO hl hf hn;have hrdy:RdyW S.N S.op S.row S.mask:=⟨h.lit,λd hd ha=>(ho.cells d hd).2 ha⟩;have hq:=hrdy.rdy hR;obtain⟨w1,w2,w3⟩:=a4V hrdy hR;have hin:=hR.inn;have hq8:∀x∈R.job S.op S.row S.mask (S.es l),0<=x.1/\x.1<8:=λx hx=>by have:=hin x hx;omega
 obtain⟨f1,f2⟩:=a1i (N:=S.N) (b:=S.op) (r:=S.row) _ 0 (by decide) hq8;have w3:WroteR S.N (S.wrote l).N S.op S.row (R.job S.op S.row S.mask (S.es l)):=w3;have w1:(S.wr l).2.1=E6 S.N S.op S.row (R.job S.op S.row S.mask (S.es l)) 0:=w1;have w2:(S.wr l).2.2=if E6 S.N S.op S.row (R.job S.op S.row S.mask (S.es l)) 0=0 then 0 else 7:=w2
 have hfail:∀d:Nat,L.has S.mask (d:Nat)=true->L.has (S.wr l).2.1 (d:Nat)=S.N.failB S.op S.row d:=λd hd=>by
  rw[w1,f2,L.has_zero,Bool.false_or,Bool.eq_iff_iff,List.any_eq_true];constructor
  ·rintro⟨x,hx,hh⟩;simp only[Bool.and_eq_true,decide_eq_true_eq]at hh;rw[<- hh.1];exact hh.2
  ·intro hh;obtain⟨x,hx,hxd⟩:=hR.on hd;exact⟨x,hx,by rw[hxd,hh];simp⟩
 have honly:∀d:Int,L.has (S.wr l).2.1 d=true->d=fd/\L.has S.mask fd=true:=λd hd=>by
  rw[w1,f2,L.has_zero,Bool.false_or,List.any_eq_true]at hd;obtain⟨x,hx,hh⟩:=hd;simp only[Bool.and_eq_true,decide_eq_true_eq]at hh;have hxi:=hin x hx;obtain⟨e,he⟩:=Int.eq_ofNat_of_zero_le hxi.1
  by_cases hne:(e:Int)=fd
  ·rw[<- hne,<- he];exact⟨hh.1.symm,hxi.2.2⟩
  ·have:=(h.fails_no (b:=S.op) (r:=S.row) hne).1;rw[<- he,hh.2]at this;cases this
 have hrow:=ho.row;have hblk:=ho.blk;have hcells:∀d:Nat,L.has S.mask (d:Nat)=true->(((S.wrote l).N.blk d S.op.toNat).cells.length:Int)<=S.row+1/\(S.N.dead.getD d false=false->(((S.wrote l).N.blk d S.op.toNat).cells.length:Int)=S.row+1):=λd hd=>by
  obtain⟨x,hx,hxd⟩:=hR.on hd;have hc:=w3.cells x hx;have ho2:=ho.cells d hd;rw[hxd,Int.toNat_natCast]at hc;rw[hc];cases hdd:S.N.dead.getD d false with
  | true=>rw[if_pos rfl];exact⟨by omega,λe=>by cases e⟩
  | false=>
   rw[if_neg Bool.false_ne_true,List.length_append];have:=ho2.2 hdd;simp only[List.length_cons,List.length_nil];exact⟨by omega,λ_=>by omega⟩
 have hfull:Full fd (S.wrote l).N S.op S.row S.mask (S.es l):=by
  refine⟨hR.like w3.like,λx hx hne=>?_,λx hx c hc=>?_⟩
  ·have hxi:=hin x hx;obtain⟨e,he⟩:=Int.eq_ofNat_of_zero_le hxi.1;have hc:=w3.cells x hx;have hne':(e:Int)≠fd:=by rw[<- he];exact hne
   have hxm:=hxi.2.2;rw[he]at hxm;have hlen:=(ho.cells e hxm).2 (h.dead e hne');rw[he,Int.toNat_natCast,h.dead e hne',if_neg Bool.false_ne_true,(h.fails_no (b:=S.op) (r:=S.row) hne').2]at hc;refine⟨false,?_⟩;unfold Nand.pageAt;rw[he,Int.toNat_natCast,hc,List.getElem?_append_right (by omega),show S.row.toNat-(S.N.blk e S.op.toNat).cells.length=0 from by omega];rfl
  ·have hxi:=hin x hx;obtain⟨e,he⟩:=Int.eq_ofNat_of_zero_le hxi.1;have hxm:=hxi.2.2;have hcc:=w3.cells x hx;unfold Nand.pageAt at hc;rw[hcc]at hc;rw[he]at hxm;have hlen:=ho.cells e hxm;rw[he,Int.toNat_natCast]at hc;cases hdd:S.N.dead.getD e false with
   | true=>
    rw[hdd,if_pos rfl,List.getElem?_eq_none (by omega)]at hc;cases hc
   | false=>
    have:=hlen.2 hdd;rw[hdd,if_neg Bool.false_ne_true,List.getElem?_append_right (by omega),show S.row.toNat-(S.N.blk e S.op.toNat).cells.length=0 from by omega]at hc;simp only[List.getElem?_cons_zero,Option.some.injEq]at hc;subst hc;exact .inr (.inl rfl)
 refine⟨⟨w3.lit,λi hi=>by rw[w3.dead];exact h.dead i hi,λa ha=>h.plan a (w3.plan a ha),λi j hi=>by have:=w3.flags i j;rw[this.1,this.2.1];exact h.flags i j hi,h.tdead,h.tbad, .inr ⟨by rw[show(S.wrote l).N.blocks=S.N.blocks from w3.like.blocks];exact ho.blk,ho.used,by rw[show(S.wrote l).N.pages=S.N.pages from w3.like.pages];show 0<=S.row+1/\S.row+1<=_;omega,by rw[show(S.wrote l).N.dies=S.N.dies from w3.like.dies];exact ho.mask,λd hd=>by rw[w3.dead];exact hcells d hd⟩,λb hb hu d hd=>?_,λi a ha=>?_⟩,hfull,by rw[w2,w1],by rw[w1];exact f1,honly,hfail,w3.dead,w3.broken,w3.like,w3.plan,λi j hj=>w3.rest i j (.inl hj),w3.flags,w3.ops⟩
 ·have hbi:=Tl.has_iff.1 hb;have hne:b≠S.op:=λe=>by rw[e]at hu;have:=ho.used;rw[show(S.wrote l).t=S.t from rfl]at hu;rw[hu]at this;cases this
  rw[w3.rest _ _ (.inl (by omega))];exact h.blank b hb hu d hd
 ·have hst:=h.st i a ha;obtain⟨lr,g1,g2,g3,g4,g5,g6⟩:=hst.row;refine⟨⟨lr,g1.keep w3.like λx hx=>w3.page hq (g1.is.inn x hx).1 g1.is.blk.1 g1.is.row.1 (λe=>by have:=hst.below e;omega),g2,g3,g4,g5,g6⟩,hst.used,λe=>by have:=hst.below e;show a.row<S.row+1;omega,?_⟩;have:=hst.seq;show 1<=a.seq/\a.seq<S.next+(S.fit l:Int);omega
theorem put (h:Inv fd S) {b r mk:Int} {es:List En} (hfull:Full fd S.N b r mk es) (hu:(S.t.at_ b).used=true) (hbel:b=S.op->r<S.row) {n:Nat} (hn:n<es.length) (hs:1<=(es.getD n En.zero).seq/\(es.getD n En.zero).seq<S.next):Inv fd {S with T:=S.T.put (es.getD n En.zero) b r n mk}:=by
 refine⟨h.lit,h.dead,h.plan,h.flags,h.tdead,h.tbad,?_,h.blank,λi a ha=>?_⟩
 ·rcases h.op with e | e
  ·exact .inl e
  ·exact .inr ⟨e.blk,e.used,e.row,e.mask,e.cells⟩
 ·have ha:Tb.look (S.T.put (es.getD n En.zero) b r n mk).at_ i=some a:=ha;rw[V.look_put]at ha;split at ha
  ·rename_i hc;injection ha with ha;subst ha;refine⟨⟨es,hfull,Int.natCast_nonneg n,by show((n:Nat):Int).toNat<_;omega,by show(es.getD ((n:Nat):Int).toNat En.zero).lpn=i;rw[Int.toNat_natCast];exact hc.2.symm,by show(es.getD ((n:Nat):Int).toNat En.zero).seq=_;rw[Int.toNat_natCast],by show(es.getD ((n:Nat):Int).toNat En.zero).role=_;rw[Int.toNat_natCast]⟩,hu,hbel,hs⟩
  ·have:=h.st i a ha;exact⟨this.row,this.used,this.below,this.seq⟩
theorem puts (h:Inv fd S) {b r mk:Int} {es:List En} (hfull:Full fd S.N b r mk es) (hu:(S.t.at_ b).used=true) (hbel:b=S.op->r<S.row) (T:Tb) (hT:S.T=T):∀n,n<=es.length->(∀i,i<n->1<=(es.getD i En.zero).seq/\(es.getD i En.zero).seq<S.next)->Inv fd {S with T:=Dv.puts T b r mk es n}
 | 0,_,_=>by subst hT;exact h
 | n+1,hn,hs=>by
  have ih:=h.puts hfull hu hbel T hT n (by omega) λi hi=>hs i (by omega);rw[Dv.puts_succ];exact put (S:={S with T:=Dv.puts T b r mk es n}) ih hfull hu hbel (by omega) (hs n (by omega))
theorem lose (h:Inv fd S) (hF:S.t.Fit S.N) (hD:S.N.dies<=6) {f:Int} {d:Nat} (hd:d<8) (hf:L.has f (d:Nat)=true->(d:Int)=fd):Inv fd (Dv.lose f S d):=by
 unfold Dv.lose;split
 ·rename_i hh;have hfd:=hf hh;obtain⟨e1,e2,e3⟩:∃t',(if S.N.deadAt d then S.t.die d else S.t.bad d S.op)=t'/\True:=⟨_,rfl,trivial⟩;have key:∀t':Tl,(t'=S.t.die d\/t'=S.t.bad d S.op)->(∀b,t'.has b=S.t.has b)/\t'.d=S.t.d/\(∀b,S.t.has b=true->(t'.at_ b).used=(S.t.at_ b).used)/\(L.set t'.dead=true/\∀d:Int,L.has t'.dead d=true->d=fd)/\(∀b,S.t.has b=true->L.set (t'.at_ b).bad=true/\∀d:Int,L.has (t'.at_ b).bad d=true->d=fd)/\(∀b,S.t.has b=true->∀e:Int,L.has (t'.mask b) e=true->L.has (S.t.mask b) e=true):=by
   intro t' ht;have hSd:S.t.d<=8:=by have:=hF.d;omega
   have h0:∀b,S.t.has b=true->L.set (S.t.mask b)=true/\∀e:Int,L.has (S.t.mask b) e=((decide (0<=e)&&decide (e<S.t.d))&& !L.has S.t.dead e&& !L.has (S.t.at_ b).bad e):=λb hb=>y6 hSd hb h.tdead.1 (h.tbad b hb).1;rcases ht with rfl | rfl
   ·unfold Tl.die;split
    ·have hw:=L.set_with h.tdead.1 (d:=(d:Int)) (by omega);have hwh:=L.with_has h.tdead.1 (d:=(d:Int)) (by omega);refine⟨λb=>rfl,rfl,λb hb=>rfl,⟨hw,λe he=>?_⟩,h.tbad,λb hb e he=>?_⟩
     ·have he:L.has (L.with_ S.t.dead (d:Int)) e=true:=he;rw[hwh]at he;rcases Bool.or_eq_true _ _▸he with he | he
      ·exact h.tdead.2 e he
      ·simp only[decide_eq_true_eq]at he;omega
     ·have hm:=(y6 (t:=⟨S.t.d,S.t.b,S.t.p,S.t.l,L.with_ S.t.dead d⟩) (b:=b) hSd hb hw (h.tbad b hb).1).2 e;rw[hm]at he;rw[(h0 b hb).2 e];simp only[Bool.and_eq_true,Bool.not_eq_true']at he ⊢;refine⟨⟨he.1.1,?_⟩,he.2⟩;have he2:=he.1.2;rw[hwh]at he2;exact(Bool.or_eq_false_iff.1 he2).1
    ·exact⟨λb=>rfl,rfl,λb hb=>rfl,h.tdead,h.tbad,λb hb e he=>he⟩
   ·unfold Tl.bad;split
    ·cases hop:S.t.has S.op with
     | false=>
      rw[Tl.set_no _ hop];exact⟨λb=>rfl,rfl,λb hb=>rfl,h.tdead,h.tbad,λb hb e he=>he⟩
     | true=>
      have hb0:=h.tbad S.op hop;have hw:=L.set_with hb0.1 (d:=(d:Int)) (by omega);have hwh:=L.with_has hb0.1 (d:=(d:Int)) (by omega);have hbad:∀b,S.t.has b=true->L.set ((S.t.set S.op {S.t.at_ S.op with bad:=L.with_ (S.t.at_ S.op).bad d}).at_ b).bad=true/\(∀e:Int,L.has ((S.t.set S.op {S.t.at_ S.op with bad:=L.with_ (S.t.at_ S.op).bad d}).at_ b).bad e=true->e=fd)/\(∀e:Int,L.has (S.t.at_ b).bad e=true->L.has ((S.t.set S.op {S.t.at_ S.op with bad:=L.with_ (S.t.at_ S.op).bad d}).at_ b).bad e=true):=λb hb=>by
       rw[Tl.at_set hF.len _ hop hb];split
       ·rename_i e;subst e;dsimp only;refine⟨hw,λe he=>?_,λe he=>?_⟩
        ·rw[hwh]at he;rcases Bool.or_eq_true _ _▸he with he | he
         ·exact hb0.2 e he
         ·simp only[decide_eq_true_eq]at he;omega
        ·rw[hwh,he];rfl
       ·exact⟨(h.tbad b hb).1,(h.tbad b hb).2,λe he=>he⟩
      refine⟨λb=>Tl.has_set _ _ _ _,Tl.set_d _ _ _,λb hb=>?_,by rw[Tl.set_dead];exact h.tdead,λb hb=>⟨(hbad b hb).1,(hbad b hb).2.1⟩,λb hb e he=>?_⟩
      ·rw[Tl.at_set hF.len _ hop hb];split
       ·rename_i e;rw[e]
       ·rfl
      ·have hm:=(y6 (t:=S.t.set S.op {S.t.at_ S.op with bad:=L.with_ (S.t.at_ S.op).bad d}) (b:=b) (by rw[Tl.set_d];exact hSd) (by rw[Tl.has_set];exact hb) (by rw[Tl.set_dead];exact h.tdead.1) (hbad b hb).1).2 e;rw[hm,Tl.set_d,Tl.set_dead]at he;rw[(h0 b hb).2 e];simp only[Bool.and_eq_true,Bool.not_eq_true']at he ⊢;refine⟨he.1,?_⟩;cases hx:L.has (S.t.at_ b).bad e with
       | false=>rfl
       | true=>rw[(hbad b hb).2.2 e hx]at he;exact absurd he.2 (by decide)
    ·exact⟨λb=>rfl,rfl,λb hb=>rfl,h.tdead,h.tbad,λb hb e he=>he⟩
  have ht':(if S.N.deadAt d then S.t.die d else S.t.bad d S.op)=S.t.die d\/(if S.N.deadAt d then S.t.die d else S.t.bad d S.op)=S.t.bad d S.op:=by split<;>simp
  obtain⟨k1,k2,k3,k4,k5,k6⟩:=key _ ht';refine⟨h.lit,h.dead,h.plan,h.flags,k4,λb hb=>k5 b (by rw[<- k1];exact hb),?_,λb hb hu e he=>?_,λi a ha=>?_⟩
  ·rcases h.op with e | e
   ·exact .inl e
   ·right;have hhas:S.t.has S.op=true:=Tl.has_iff.2 (by have:=e.blk;have:=hF.b;omega);have hms:=e.mask;have hwo:=L.without_has hms.set (d:=(d:Int)) (by omega);refine⟨e.blk,by show(Tl.at_ _ S.op).used=true;rw[k3 _ hhas];exact e.used,e.row,⟨L.set_without hms.set (by omega),λx hx=>?_,λx hx hne=>?_⟩,λx hx=>?_⟩
    ·rw[hwo]at hx;simp only[Bool.and_eq_true]at hx;exact hms.lt x hx.1
    ·rw[hwo,hms.all x hx hne];simp;omega
    ·have hx:L.has (L.without S.mask (d:Int)) (x:Nat)=true:=hx;rw[hwo]at hx;simp only[Bool.and_eq_true]at hx;exact e.cells x hx.1
  ·have hb':S.t.has b=true:=by rw[<- k1];exact hb
   exact h.blank b hb' (by rw[<- k3 b hb'];exact hu) e (k6 b hb' _ he)
  ·have hst:=h.st i a ha;have hhas:S.t.has a.block=true:=by
    obtain⟨lr,g1,_⟩:=hst.row;have:=g1.is.blk;have:=hF.b;exact Tl.has_iff.2 (by omega)
   exact⟨hst.row,by show(Tl.at_ _ a.block).used=true;rw[k3 _ hhas];exact hst.used,hst.below,hst.seq⟩
 ·exact h
theorem loses_q {f:Int} (hf:∀d:Nat,L.has f (d:Nat)=true->(d:Int)=fd):∀(q:List Nat) (S:Dv),Inv fd S->S.t.Fit S.N->S.N.dies<=6->(∀d∈q,d<8)->Inv fd (q.foldl (Dv.lose f) S)
 | [],S,h,_,_,_=>h
 | d::q,S,h,hF,hD,hq=>by
  rw[List.foldl_cons];have hN:=(Dv.lose_N f S d).1;exact loses_q hf q _ (h.lose hF hD (hq d (by simp)) (hf d)) (by rw[hN];exact(Dv.lose_t f S d hF).1) (by rw[hN];exact hD) λe he=>hq e (by simp[he])
theorem loses (h:Inv fd S) (hO:S.Ok k m) {f:Int} (hf:∀d:Nat,L.has f (d:Nat)=true->(d:Int)=fd):Inv fd (S.loses f):=by
 have hg:=hO.gd.ok.bd16;exact loses_q hf _ S h hO.t hg.1.2 λd hd=>by have:=List.mem_range.1 hd;omega
end Inv
def Dv.rows (S:Dv):Nat:=S.N.pages*S.t.blanks+(if S.op>=0 then(S.N.pages-S.row).toNat else 0)
structure NoF (S:Dv):Prop where
 dead:∀i:Nat,S.N.dead.getD i false=false
 plan:S.N.plan=[]
 met:∀i j:Nat,(S.N.blk i j).met=false
theorem NoF.fails {S:Dv} (h:NoF S) (b r:Int) (d:Nat):S.N.failB b r d=false:=by
 unfold Nand.failB Nand.fails;rw[Int.toNat_natCast,h.dead,h.plan,h.met];rfl
structure Went (fd:Int) (S Q:Dv) (β:Nat):Prop where
 inv:Inv fd Q
 T:Q.T=S.T
 next:S.next<=Q.next/\Q.next<=S.next+7*(β:Int)
 dead:Q.N.dead=S.N.dead
 broken:Q.N.broken=S.N.broken
 like:S.N.Like Q.N
 plan:∀a∈Q.N.plan,a∈S.N.plan
 flags:∀i j,(Q.N.blk i j).met=(S.N.blk i j).met/\(Q.N.blk i j).fails=(S.N.blk i j).fails/\(Q.N.blk i j).worn=(S.N.blk i j).worn
 rows:Q.rows+β=S.rows
 reads:∀i a,Std fd S i a->R.read Q.N a.block a.row a.slot a.mask=R.read S.N a.block a.row a.slot a.mask
 stay:∀i a,Std fd S i a->Std fd Q i a
 sb:∀b,S.t.has b=true->(Q.t.at_ b).wear=(S.t.at_ b).wear/\(Q.t.at_ b).held=(S.t.at_ b).held/\((S.t.at_ b).used=true->(Q.t.at_ b).used=true)
 td:∀d:Int,L.has S.t.dead d=true->L.has Q.t.dead d=true
namespace Dv
theorem at_dead (S:Dv) (f:Int) (d:Nat):(∀b,(lose f S d).t.has b=S.t.has b):=by
 intro b;unfold lose;split
 ·dsimp only;split
  ·unfold Tl.die;split<;>rfl
  ·unfold Tl.bad;split
   ·exact Tl.has_set _ _ _ _
   ·rfl
 ·rfl
theorem lose_sb {S:Dv} (hF:S.t.Fit S.N) (hd6:S.t.d<=8) (hs:L.set S.t.dead=true) (f:Int) (d:Nat):(∀b,S.t.has b=true->((lose f S d).t.at_ b).wear=(S.t.at_ b).wear/\((lose f S d).t.at_ b).held=(S.t.at_ b).held/\((lose f S d).t.at_ b).used=(S.t.at_ b).used)/\L.set (lose f S d).t.dead=true/\(∀e:Int,L.has S.t.dead e=true->L.has (lose f S d).t.dead e=true)/\(lose f S d).t.d=S.t.d:=by
 unfold lose;split
 ·dsimp only;split
  ·unfold Tl.die;split
   ·rename_i hh;simp only[Tl.hasDie,Bool.and_eq_true,decide_eq_true_eq]at hh;refine⟨λb _=>⟨rfl,rfl,rfl⟩,L.set_with hs (by omega),λe he=>?_,rfl⟩;show L.has (L.with_ S.t.dead d) e=true;rw[L.with_has hs (by omega),he];rfl
   ·exact⟨λb _=>⟨rfl,rfl,rfl⟩,hs,λe he=>he,rfl⟩
  ·unfold Tl.bad;split
   ·cases hop:S.t.has S.op with
    | false=>rw[Tl.set_no _ hop];exact⟨λb _=>⟨rfl,rfl,rfl⟩,hs,λe he=>he,rfl⟩
    | true=>
     refine⟨λb hb=>?_,by rw[Tl.set_dead];exact hs,λe he=>by rw[Tl.set_dead];exact he,Tl.set_d _ _ _⟩;rw[Tl.at_set hF.len _ hop hb];split
     ·rename_i e;subst e;exact⟨rfl,rfl,rfl⟩
     ·exact⟨rfl,rfl,rfl⟩
   ·exact⟨λb _=>⟨rfl,rfl,rfl⟩,hs,λe he=>he,rfl⟩
 ·exact⟨λb _=>⟨rfl,rfl,rfl⟩,hs,λe he=>he,rfl⟩
theorem loses_sb {f:Int}:∀(q:List Nat) (S:Dv),S.t.Fit S.N->S.t.d<=8->L.set S.t.dead=true->(∀b,(q.foldl (lose f) S).t.has b=S.t.has b)/\(∀b,S.t.has b=true->((q.foldl (lose f) S).t.at_ b).wear=(S.t.at_ b).wear/\((q.foldl (lose f) S).t.at_ b).held=(S.t.at_ b).held/\((q.foldl (lose f) S).t.at_ b).used=(S.t.at_ b).used)/\(∀e:Int,L.has S.t.dead e=true->L.has (q.foldl (lose f) S).t.dead e=true)
 | [],S,_,_,_=>⟨λ_=>rfl,λ_ _=>⟨rfl,rfl,rfl⟩,λ_ h=>h⟩
 | d::q,S,hF,h8,hs=>by
  obtain⟨a1,a2,a3,a4⟩:=lose_sb hF h8 hs f d;have hN:=(lose_N f S d).1;have ih:=loses_sb (f:=f) q (lose f S d) (by rw[hN];exact(lose_t f S d hF).1) (by rw[a4];exact h8) a2;rw[List.foldl_cons];refine⟨λb=>by rw[ih.1,at_dead],λb hb=>?_,λe he=>ih.2.2 e (a3 e he)⟩;have:=ih.2.1 b (by rw[at_dead];exact hb);rw[this.1,this.2.1,this.2.2];exact a1 b hb
theorem lose_mask {S:Dv} {f:Int} {d:Nat} (hd:d<8) (hm:L.set S.mask=true):L.set (lose f S d).mask=true/\∀e:Int,L.has (lose f S d).mask e=(L.has S.mask e&& !(decide (e=d)&&L.has f (d:Nat))):=by
 unfold lose;cases h:L.has f (d:Nat)with
 | true=>
  rw[if_pos rfl];refine⟨L.set_without hm (by omega),λe=>?_⟩;show L.has (L.without S.mask (d:Int)) e=_;rw[L.without_has hm (by omega),Bool.and_true]
 | false=>rw[if_neg Bool.false_ne_true];exact⟨hm,λe=>by simp⟩
theorem loses_mask {f:Int}:∀(q:List Nat) (S:Dv),(∀d∈q,d<8)->L.set S.mask=true->L.set (q.foldl (lose f) S).mask=true/\∀e:Int,L.has (q.foldl (lose f) S).mask e=(L.has S.mask e&& !(q.any λd=>decide (e=(d:Nat))&&L.has f (d:Nat)))
 | [],S,_,hm=>⟨hm,λe=>by simp⟩
 | d::q,S,hq,hm=>by
  obtain⟨a1,a2⟩:=lose_mask (f:=f) (hq d (by simp)) hm;have ih:=loses_mask (f:=f) q (lose f S d) (λe he=>hq e (by simp[he])) a1;rw[List.foldl_cons];refine⟨ih.1,λe=>?_⟩;rw[ih.2,a2,List.any_cons,Bool.not_or,Bool.and_assoc]
end Dv
namespace Inv
variable {fd : Int} {S : Dv} {k m : Nat} {l : List En}
theorem std_same {S Q:Dv} (hN:Q.N=S.N) (hu:∀b,S.t.has b=true->(S.t.at_ b).used=true->(Q.t.at_ b).used=true) (hb:S.t.b=S.N.blocks) (hop:∀a:AtV,(a.block=S.op->a.row<S.row)->(a.block=Q.op->a.row<Q.row)\/(S.t.at_ a.block).used=false) (hn:S.next<=Q.next) {i:Int} {a:AtV} (h:Std fd S i a):Std fd Q i a:=by
 obtain⟨lr,g1,g2⟩:=h.row;have hhas:S.t.has a.block=true:=by
  have:=g1.is.blk;exact Tl.has_iff.2 (by omega)
 have hs:=h.seq;refine⟨⟨lr,by rw[hN];exact g1,g2⟩,hu _ hhas h.used,?_,by omega⟩;rcases hop a h.below with e | e
 ·exact e
 ·rw[h.used]at e;cases e
theorem opens (h:Inv fd S) (hO:S.Ok k m) (hl:S.left=false) (hp:¬S.pick<0):Went fd S S.opened 0/\S.opened.left=true/\S.opened.mask=S.t.mask S.pick:=by
 have hg:=hO.gd.ok.bd16;have hb:=hO.t.b;have hlen:=hO.t.len;rcases S.pick_spec with e | ⟨p1,p2,p3,p4⟩
 ·omega
 have hhas:S.t.has S.pick=true:=Tl.has_iff.2 ⟨p1,p2⟩;have hbl:=Dv.pick_blank hp;have hbl2:=Tl.blanks_open hlen hbl;have hunu:(S.t.at_ S.pick).used=false:=by simp only[Tl.blank,Bool.and_eq_true,Bool.not_eq_true']at hbl;exact hbl.2
 have hmk:∀j,(S.t.clean S.pick false).mask j=S.t.mask j:=λj=>Dv.mask_clean hlen _ _ _;have hmsk:=h.msk hO hhas;have hat:∀b,S.t.has b=true->(S.opened.t.at_ b)=if b=S.pick then {S.t.at_ S.pick with used:=true}else S.t.at_ b:=λb hb=>Tl.at_set hlen _ hhas hb
 have hleft:S.opened.left=true:=by
  have:=(hmsk.pos hg.1).1;unfold Dv.left;have e1:S.opened.op=S.pick:=rfl;have e2:S.opened.row=0:=rfl;have e3:S.opened.mask=S.t.mask S.pick:=hmk _;have e4:S.opened.N=S.N:=rfl;rw[e1,e2,e3,e4,decide_eq_true (by omega),decide_eq_true (by omega),decide_eq_true (by omega)];rfl
 have hdd:S.opened.t.dead=S.t.dead:=Tl.set_dead _ _ _;have hhs:∀b,S.opened.t.has b=S.t.has b:=λb=>Tl.has_set _ _ _ _;have hopn:Opn fd S.opened:=⟨⟨p1,by show S.pick<S.N.blocks;omega⟩,by show(S.opened.t.at_ S.pick).used=true;rw[hat _ hhas,if_pos rfl],by show(0:Int)<=0/\(0:Int)<=S.N.pages;omega,by show Msk S.N.dies fd (Tl.mask _ _);rw[hmk];exact hmsk,λd hd=>by
  have hd:L.has (Tl.mask (S.t.clean S.pick false) S.pick) (d:Nat)=true:=hd;rw[hmk]at hd;have:=h.blank S.pick hhas hunu d hd;show((S.N.blk d S.pick.toNat).cells.length:Int)<=0/\(_->((S.N.blk d S.pick.toNat).cells.length:Int)=0);rw[this];simp⟩
 have hrow0:S.op>=0->S.N.pages<=S.row:=λh0=>by
  rcases h.op with e | e
  ·omega
  ·have hps:=(e.mask.pos hg.1).1;cases hh:decide (S.row<S.N.pages)with
   | false=>have:=of_decide_eq_false hh;omega
   | true=>
    have:S.left=true:=by
     unfold Dv.left;rw[decide_eq_true h0,hh,decide_eq_true (by omega)];rfl
    rw[hl]at this;cases this
 have hstd:∀i a,Std fd S i a->Std fd S.opened i a:=λi a ha=>std_same (S:=S) (Q:=S.opened) rfl (λb hb hu=>by
   rw[hat b hb];split
   ·rfl
   ·exact hu) hb (λa _=>by
   by_cases e:a.block=S.pick
   ·right;rw[e];exact hunu
   ·left;intro e2;exact absurd e2 e) (Int.le_refl _) ha
 refine⟨⟨⟨h.lit,h.dead,h.plan,h.flags,by rw[hdd];exact h.tdead,λb hb=>?_, .inr hopn,λb hb hu d hd=>?_,λi a ha=>hstd i a (h.st i a ha)⟩,rfl,⟨Int.le_refl _,by show S.next<=S.next+_;omega⟩,rfl,rfl,Nand.Like.refl _,λ_ h=>h,λ_ _=>⟨rfl,rfl,rfl⟩,?_,λ_ _ _=>rfl,hstd,λb hb=>?_,λd hd=>by rw[hdd];exact hd⟩,hleft,hmk _⟩
 ·have hb':S.t.has b=true:=by rw[<- hhs];exact hb
  rw[hat b hb'];split
  ·rename_i e;subst e;exact h.tbad _ hhas
  ·exact h.tbad b hb'
 ·have hb':S.t.has b=true:=by rw[<- hhs];exact hb
  have hd:L.has (Tl.mask (S.t.clean S.pick false) b) (d:Nat)=true:=hd;rw[hmk]at hd;rw[hat b hb']at hu;split at hu
  ·cases hu
  ·exact h.blank b hb' hu d hd
 ·unfold Dv.rows;have e1:S.opened.t.blanks=(S.t.clean S.pick false).blanks:=rfl;have e2:S.opened.N.pages=S.N.pages:=rfl;have e3:S.opened.op=S.pick:=rfl;have e4:S.opened.row=0:=rfl;rw[e1,e2,e3,e4,if_pos (by omega)];have:S.N.pages*S.t.blanks=S.N.pages*(S.t.clean S.pick false).blanks+S.N.pages:=by rw[<- hbl2,Nat.mul_succ]
  rw[this]
  by_cases h0:S.op>=0
  ·have:=hrow0 h0;rw[if_pos h0];omega
  ·rw[if_neg h0];omega
 ·rw[hat b hb];split
  ·rename_i e;subst e;exact⟨rfl,rfl,λ_=>rfl⟩
  ·exact⟨rfl,rfl,λh=>h⟩
theorem turn_std (h:Inv fd S) (ht:Turn fd S l) (hO:S.Ok k m) (hl:S.left=true) (hf:∀e∈l,FitR e) (hn:¬S.next>1099511627775-(S.fit l:Int)+1) {i:Int} {a:AtV} (ha:Std fd S i a):Std fd (S.wrote l) i a/\R.read (S.wrote l).N a.block a.row a.slot a.mask=R.read S.N a.block a.row a.slot a.mask:=by
 have ho:=h.opn hl;have hR:=h.rowIs hO hl hf hn;have hrdy:RdyW S.N S.op S.row S.mask:=⟨h.lit,λd hd ha=>(ho.cells d hd).2 ha⟩;have hq:=hrdy.rdy hR;have w3:WroteR S.N (S.wrote l).N S.op S.row (R.job S.op S.row S.mask (S.es l)):=(a4V hrdy hR).2.2;obtain⟨lr,g1,g2,g3,g4,g5,g6⟩:=ha.row;have hk:Full fd (S.wrote l).N a.block a.row a.mask lr:=g1.keep w3.like λx hx=>w3.page hq (g1.is.inn x hx).1 g1.is.blk.1 g1.is.row.1 (λe=>by have:=ha.below e;omega);have hs:=ha.seq;refine⟨⟨⟨lr,hk,g2,g3,g4,g5,g6⟩,ha.used,λe=>by have:=ha.below e;show a.row<S.row+1;omega,by show 1<=a.seq/\a.seq<S.next+(S.fit l:Int);omega⟩,?_⟩;have r1:=hk.read ht.inv.lit.off ht.inv.dead g3;have r2:=g1.read h.lit.off h.dead g3;rw[show((a.slot.toNat:Nat):Int)=a.slot from by omega]at r1 r2;rw[r1,r2]
theorem burn (h:Inv fd S) (hO:S.Ok (8+k) m) (hl:S.left=true) (hf:∀e∈l,FitR e) (hn:¬S.next>1099511627775-(S.fit l:Int)+1) (hb:(S.wr l).2.1≠0):Went fd S ((S.wrote l).loses (S.wr l).2.1) 1/\L.has ((S.wrote l).loses (S.wr l).2.1).mask fd=false/\L.has S.mask fd=true/\((S.wrote l).loses (S.wr l).2.1).row=S.row+1/\((S.wrote l).loses (S.wr l).2.1).op=S.op/\S.N.failB S.op S.row fd=true/\∀d:Int,L.has ((S.wrote l).loses (S.wr l).2.1).mask d=true->L.has S.mask d=true:=by
 have hg:=hO.gd.ok.bd16;have ho:=h.opn hl;have hs:=Dv.left_spec hl;have ht:=h.turn hO hl hf hn;have hd:∀s∈l,s.data.length=16:=λe he=>(hf e he).len;have hW:=hO.wrote hd hs.2.1 hn;obtain⟨l1,l2,l3,l4,l5,l6,l7⟩:=Dv.loses_same (S.wrote l) (S.wr l).2.1 hW.t;have hi:=ht.inv.loses hW (f:=(S.wr l).2.1) λd hd=>(ht.only _ hd).1;have hfit:=Dv.fit_le S l;have hq8:∀d∈List.range (S.wrote l).N.dies,d<8:=λd hd=>by
  have:=List.mem_range.1 hd;have:=ht.like.dies;omega
 obtain⟨b1,b2,b3⟩:=Dv.loses_sb (f:=(S.wr l).2.1) (List.range (S.wrote l).N.dies) (S.wrote l) hW.t (by have:=hO.t.d;show S.t.d<=8;omega) h.tdead.1;obtain⟨m1,m2⟩:=Dv.loses_mask (f:=(S.wr l).2.1) (List.range (S.wrote l).N.dies) (S.wrote l) hq8 ho.mask.set;have hex:∃d:Nat,L.has (S.wr l).2.1 (d:Nat)=true:=by
  refine Classical.byContradiction λhno=>hb (L.ext ht.set (by decide) λd _=>?_);rw[L.has_zero];cases hh:L.has (S.wr l).2.1 (d:Nat)with
  | false=>rfl
  | true=>exact absurd ⟨d,hh⟩ hno
 obtain⟨d0,hd0⟩:=hex;obtain⟨o1,o2⟩:=ht.only _ hd0;have hfdlt:=ho.mask.lt _ o2;have hstay:∀i a,Std fd S i a->Std fd ((S.wrote l).loses (S.wr l).2.1) i a:=λi a ha=>by
  have h1:=(h.turn_std ht hO hl hf hn ha).1;refine std_same (S:=S.wrote l) l1 (λb hb hu=>(b2 b hb).2.2.trans hu) hW.t.b (λa ha=> .inl (by rw[l3,l4];exact ha)) (by rw[l5];exact Int.le_refl _) h1
 refine⟨⟨hi,l2,?_,by rw[l1];exact ht.dead,by rw[l1];exact ht.broken,by rw[l1];exact ht.like,by rw[l1];exact ht.plan,by rw[l1];exact ht.flags,?_,λi a ha=>by rw[l1];exact(h.turn_std ht hO hl hf hn ha).2,hstay,λb hb=>?_,λd hd=>b3 d hd⟩,?_,o2,l4,l3,?_,λd hd=>?_⟩
 ·rw[l5];show S.next<=S.next+(S.fit l:Int)/\S.next+(S.fit l:Int)<=S.next+7*((1:Nat):Int);omega
 ·unfold Dv.rows;rw[l7,l1,l3,l4];have e1:(S.wrote l).N.pages=S.N.pages:=ht.like.pages;have e2:(S.wrote l).t.blanks=S.t.blanks:=rfl;have e3:(S.wrote l).op=S.op:=rfl;have e4:(S.wrote l).row=S.row+1:=rfl;rw[e1,e2,e3,e4,if_pos (by omega),if_pos (by omega)];have:=ho.row;omega
 ·have:=b2 b hb;exact⟨this.1,this.2.1,λhu=>this.2.2.trans hu⟩
 ·have e:=m2 fd;show L.has (((List.range (S.wrote l).N.dies).foldl (Dv.lose (S.wr l).2.1) (S.wrote l)).mask) fd=false;rw[e];have:((List.range (S.wrote l).N.dies).any λd=>decide (fd=(d:Nat))&&L.has (S.wr l).2.1 (d:Nat))=true:=by
   refine List.any_eq_true.2 ⟨d0,List.mem_range.2 ?_,by rw[hd0,decide_eq_true o1.symm];rfl⟩;have:=ht.like.dies;omega
  rw[this];simp
 ·have h2:=o2;rw[<- o1]at h2;have:=ht.fail d0 h2;rw[<- o1,<- this];exact hd0
 ·have e:=m2 d;have hd:L.has (((List.range (S.wrote l).N.dies).foldl (Dv.lose (S.wr l).2.1) (S.wrote l)).mask) d=true:=hd;rw[e]at hd;simp only[Bool.and_eq_true]at hd;exact hd.1
end Inv
theorem Went.refl {fd:Int} {S:Dv} (h:Inv fd S):Went fd S S 0:=
 ⟨h,rfl,by omega,rfl,rfl,Nand.Like.refl _,λ_ h=>h,λ_ _=>⟨rfl,rfl,rfl⟩,rfl,λ_ _ _=>rfl,λ_ _ h=>h,λ_ _=>⟨rfl,rfl,λh=>h⟩,λ_ h=>h⟩
theorem Went.trans {fd:Int} {S Q P:Dv} {β γ:Nat} (h:Went fd S Q β) (hh:∀b,Q.t.has b=S.t.has b) (g:Went fd Q P γ):Went fd S P (β+γ):=by
 have h1:=h.next;have h2:=g.next;have h3:=h.rows;have h4:=g.rows;refine⟨g.inv,g.T.trans h.T,by omega,g.dead.trans h.dead,g.broken.trans h.broken,h.like.trans g.like,λa ha=>h.plan a (g.plan a ha),λi j=>?_,by omega,λi a ha=>(g.reads i a (h.stay i a ha)).trans (h.reads i a ha),λi a ha=>g.stay i a (h.stay i a ha),λb hb=>?_,λd hd=>g.td d (h.td d hd)⟩
 ·have a1:=h.flags i j;have a2:=g.flags i j;exact⟨a2.1.trans a1.1,a2.2.1.trans a1.2.1,a2.2.2.trans a1.2.2⟩
 ·have a1:=h.sb b hb;have a2:=g.sb b (by rw[hh];exact hb);exact⟨a2.1.trans a1.1,a2.2.1.trans a1.2.1,λhu=>a2.2.2 (a1.2.2 hu)⟩
inductive Hot (fd:Int) (S:Dv):Nat->Prop
 | calm:NoF S->Hot fd S 0
 | cold:L.has S.t.dead fd=true->L.has S.mask fd=false->Hot fd S 0
 | there:S.left=true->L.has S.mask fd=false->Hot fd S 0
 | once:L.has S.t.dead fd=true->Hot fd S 1
 | burnt:L.has S.mask fd=false->Hot fd S 1
 | any:Hot fd S 2
structure Last (fd:Int) (Q:Dv) (l:List En):Prop where
 left:Q.left=true
 err:(Q.wr l).2.1=0
 bd:¬Q.next>1099511627775-(Q.fit l:Int)+1
 turn:Inv.Turn fd Q l
def s7 (Q:Dv) (l:List En):Dv:={Q.wrote l with T:=Dv.puts Q.T Q.op Q.row Q.mask (Q.es l) (Q.fit l)}
namespace Inv
variable {fd : Int} {S : Dv} {k m : Nat} {l : List En}
theorem has_same {Q:Dv} (hO:S.t.Fit S.N) (hQ:Q.t.Fit Q.N) (hl:S.N.Like Q.N) (b:Int):Q.t.has b=S.t.has b:=by
 unfold Tl.has;rw[show Q.t.b=S.t.b from by rw[hQ.b,hO.b,hl.blocks]]
theorem rows_pos (h:Inv fd S) (hO:S.Ok k m) (hr:0<S.rows):S.left=true\/¬S.pick<0:=by
 have hg:=hO.gd.ok.bd16
 by_cases hb:S.t.blanks=0
 ·left;unfold Dv.rows at hr;rw[hb,Nat.mul_zero,Nat.zero_add]at hr;split at hr
  ·rename_i h0;rcases h.op with e | e
   ·omega
   ·have:=(e.mask.pos hg.1).1;unfold Dv.left;rw[decide_eq_true h0,decide_eq_true (by omega),decide_eq_true (by omega)];rfl
  ·omega
 ·right;obtain⟨s,hs,hu⟩:=List.countP_pos_iff.1 (show 0<S.t.l.countP λs=>!s.used by unfold Tl.blanks at hb;omega);obtain⟨j,hj,rfl⟩:=List.mem_iff_getElem.1 hs;have hlen:=hO.t.len;have hhas:S.t.has (j:Nat)=true:=Tl.has_iff.2 (by omega);have hat:S.t.at_ (j:Nat)=S.t.l[j]:=by unfold Tl.at_;rw[Int.toNat_natCast,List.getD_eq_getElem?_getD,List.getElem?_eq_getElem hj,Option.getD_some]
  have hunu:(S.t.at_ (j:Nat)).used=false:=by rw[hat];simpa using hu
  have hcnt:S.T.count (j:Nat)=0:=by
   rw[hO.T.cnt];unfold Tb.cntB;congr 1;rw[List.countP_eq_zero];intro x hx hxb;simp only[beq_iff_eq]at hxb;have hlk:Tb.look S.T.at_ x.1=some x.2:=by
    cases hh:Tb.look S.T.at_ x.1 with
    | none=>rw[Tb.look_none]at hh;exact absurd (List.mem_map.2 ⟨x,hx,rfl⟩) hh
    | some a=>
     have hm:=Tb.look_mem hh;have hn:=hO.T.keys;obtain⟨i1,g1,e1⟩:=List.mem_iff_getElem.1 hm;obtain⟨i2,g2,e2⟩:=List.mem_iff_getElem.1 hx;have:i1=i2:=(List.getElem?_inj (by rw[List.length_map];exact g1) hn).1 (by rw[List.getElem?_map,List.getElem?_map,List.getElem?_eq_getElem g1,List.getElem?_eq_getElem g2,e1,e2];rfl);subst this;rw[e1]at e2;rw[<- e2]
   have:=(h.st _ _ hlk).used;rw[hxb,hunu]at this;cases this
  have hop:(j:Int)≠S.op:=λe=>by
   rcases h.op with e2 | e2
   ·omega
   ·have:=e2.used;rw[<- e,hunu]at this;cases this
  have hmem:((j:Nat):Int)∈f6 (y0 S.t S.T) S.op S.t.b:=mem_pkSome.2 ⟨by omega,by omega,hop,by
   unfold y0;rw[h.usable hO hhas,hcnt];simp only[Tl.blank,hhas,hunu];rfl⟩
  intro hp;rcases a4l (λx y=>B4 (S.t.wear x) (S.t.wear y)) (y0 S.t S.T) S.op S.t.b with e | e
  ·rw[e.2]at hmem;cases hmem
  ·have:=e.2;unfold Dv.pick at hp;omega
theorem write_go:∀(β f:Nat) (S:Dv) (k:Nat),Inv fd S->S.Ok (8*(f+β+1)+k) m->Hot fd S β->β<S.rows->(∀e∈l,FitR e)->l.length≠0->S.next+7*(β:Int)<=1099511627775-7->
  ∃γ Q,γ<=β/\Went fd S Q γ/\Q.Ok (8+k) m/\Last fd Q l/\Dv.write (f+β+1) S l=(s7 Q l,(Q.fit l:Int),(0:Int))/\(NoF S->Q=S.at1/\γ=0)/\(0<γ->L.has S.t.dead fd=true->L.has Q.mask fd=false)/\(∀d:Int,L.has S.t.dead d=true->L.has S.mask d=false->L.has Q.mask d=false)/\(γ=0->Q=S.at1)
 | β,f,S,k,h,hO,hH,hr,hf,hl0,hnx=>by
  have hg:=hO.gd.ok.bd16;have h8:S.t.d<=8:=by have:=hO.t.d;omega
  have hd:∀s∈l,s.data.length=16:=λe he=>(hf e he).len;have hns:¬(S.left=false/\S.pick<0):=λe=>by
   rcases h.rows_pos hO (by omega)with e2 | e2
   ·rw[e.1]at e2;cases e2
   ·exact e2 e.2
  --the one that is written
  obtain⟨Q,hQ⟩:∃Q,S.at1=Q:=⟨_,rfl⟩;have hW:Went fd S Q 0/\Q.left=true/\((Q=S)\/(Q=S.opened/\Q.mask=S.t.mask S.pick/\S.t.has S.pick=true)):=by
   cases hl:S.left with
   | true=>
    have:S.at1=S:=by unfold Dv.at1;rw[hl,if_pos rfl]
    rw[<- hQ,this];exact⟨Went.refl h,hl, .inl rfl⟩
   | false=>
    have hp:¬S.pick<0:=λe=>hns ⟨hl,e⟩;have e1:S.at1=S.opened:=by unfold Dv.at1;rw[hl,if_neg Bool.false_ne_true]
    have:=h.opens hO hl hp;rw[<- hQ,e1];rcases S.pick_spec with e | ⟨p1,p2,_,_⟩
    ·omega
    ·exact⟨this.1,this.2.1, .inr ⟨rfl,this.2.2,Tl.has_iff.2 ⟨p1,p2⟩⟩⟩
  obtain⟨w1,w2,w3⟩:=hW;have hQO:Q.Ok (8*(f+β+1)+k) m:=by rw[<- hQ];exact hO.at1
  have hfit:=Dv.fit_le Q l;have hn:¬Q.next>1099511627775-(Q.fit l:Int)+1:=by have:=w1.next;omega
  have ht:=w1.inv.turn hQO w2 hf hn;have hmaskd:∀d:Int,L.has S.t.dead d=true->L.has S.mask d=false->L.has Q.mask d=false:=λd h1 h2=>by
   rcases w3 with e | ⟨e,e2,e3⟩
   ·rw[e];exact h2
   ·rw[e2];have:=(y6 h8 e3 h.tdead.1 (h.tbad _ e3).1).2 d;rw[this,h1];simp
  have hmaskd2:Q≠S->∀d:Int,L.has S.t.dead d=true->L.has Q.mask d=false:=λhne d h1=>by
   rcases w3 with e | ⟨e,e2,e3⟩
   ·exact absurd e hne
   ·rw[e2];have:=(y6 h8 e3 h.tdead.1 (h.tbad _ e3).1).2 d;rw[this,h1];simp
  by_cases he:(Q.wr l).2.1=0
  ·refine⟨0,Q,by omega,w1,hQO.less (by omega),⟨w2,he,hn,ht⟩,?_,λ_=>⟨hQ.symm,rfl⟩,λh0=>by omega,hmaskd,λ_=>hQ.symm⟩;have herr:=ht.err;rw[if_pos he]at herr;rw[Dv.write_succ,if_neg hl0,if_neg hns,hQ,if_neg hn,if_neg (by rw[herr];decide),if_pos herr];rfl
  ·have herr:=ht.err;rw[if_neg he]at herr;have hQO8:Q.Ok (8+(8*(f+β)+k)) m:=hQO.less (by omega);obtain⟨b1,b2,b3,b4,b5,b6,b7⟩:=w1.inv.burn hQO8 w2 hf hn he;have hWO:=(hQO8.wrote hd (Dv.left_spec w2).2.1 hn).loses (Q.wr l).2.1;have hwr:Dv.write (f+β+1) S l=Dv.write (f+β) ((Q.wrote l).loses (Q.wr l).2.1) l:=by
    rw[Dv.write_succ,if_neg hl0,if_neg hns,hQ,if_neg hn,if_neg (by rw[herr];decide),if_neg (by rw[herr];decide),if_neg (by rw[herr];decide)]
   have hnof:¬NoF S:=λhno=>by
    have:NoF Q:=⟨λi=>by rw[w1.dead];exact hno.dead i,List.eq_nil_iff_forall_not_mem.2 λa ha=>(by have:=w1.plan a ha;rw[hno.plan]at this;cases this),λi j=>by rw[(w1.flags i j).1];exact hno.met i j⟩;have hfl:=this.fails Q.op Q.row fd.toNat
    obtain⟨x,hx,_⟩:=L.has_rng b3;rw[hx,Int.toNat_natCast]at hfl;rw[hx,hfl]at b6;cases b6
   generalize hS2:(Q.wrote l).loses (Q.wr l).2.1=S2 at b1 b2 b4 b5 b7 hWO hwr;have hW2:Went fd S S2 1:=by
    have:=w1.trans (has_same hO.t hQO.t w1.like) b1
    rwa [Nat.zero_add]at this
   obtain⟨β',hβ,hH'⟩:∃β',β=β'+1/\Hot fd S2 β':=by
    cases hH with
    | calm hno=>exact absurd hno hnof
    | cold h1 h2=>rw[hmaskd fd h1 h2]at b3;cases b3
    | there h1 h2=>
     rcases w3 with e | ⟨e,_⟩
     ·rw[e,h2]at b3;cases b3
     ·have:S.at1=S:=by unfold Dv.at1;rw[h1,if_pos rfl]
      rw[<- hQ,this,h2]at b3;cases b3
    | once h1=>exact⟨0,rfl, .cold (hW2.td fd h1) b2⟩
    | burnt h1=>
     refine⟨0,rfl, .there ?_ b2⟩;rcases w3 with e | ⟨e,_⟩
     ·rw[e,h1]at b3;cases b3
     ·have hi:=b1.inv;have hQop:=(w1.inv.opn w2).blk;have e0:Q.row=0:=by rw[e];rfl
      have hpg:S2.N.pages=Q.N.pages:=b1.like.pages;have hpg2:Q.N.pages=S.N.pages:=w1.like.pages;have hop2:Opn fd S2:=by
       rcases hi.op with e2 | e2
       ·omega
       ·exact e2
      have:=(hop2.mask.pos (hWO.gd.ok.bd16.1)).1;unfold Dv.left;rw[decide_eq_true (by omega),decide_eq_true (by omega),decide_eq_true (by omega)];rfl
    | any=>exact⟨1,rfl, .burnt b2⟩
   subst hβ;have hrows:=hW2.rows;have hnx2:=hW2.next;obtain⟨γ,P,c1,c2,c3,c4,c5,c6,c7,c8,_⟩:=write_go β' f S2 k hW2.inv (by rw[show f+β'+1=f+(β'+1)from by omega];exact hWO) hH' (by omega) hf hl0 (by omega);refine⟨1+γ,P,by omega,hW2.trans (has_same hO.t hWO.t hW2.like) c2,c3,c4,?_,λhno=>absurd hno hnof,λ_ hdd=>c8 fd (hW2.td fd hdd) b2,λd h1 h2=>c8 d (hW2.td d h1) ?_,λe=>absurd e (by omega)⟩
   ·rw[hwr,show f+(β'+1)=f+β'+1 from by omega,c5]
   ·cases hh:L.has S2.mask d with
    | false=>rfl
    | true=>have:=b7 d hh;rw[hmaskd d h1 h2]at this;cases this
end Inv
end Go.Proofs.YtpohajhbfllbbaaGreat
