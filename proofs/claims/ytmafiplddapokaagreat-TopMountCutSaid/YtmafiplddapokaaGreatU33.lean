/- Helpers. No condition. -/
import Derived.Test.YtmafiplddapokaaGreatU31
import Derived.Below
import Derived.BigQuiet
import Derived.ChangeOld
import Derived.Deep.AppendLies
import Derived.Deep.DeepCutAuto
import Derived.Deep.DrawnRows
import Derived.Deep.Draws
import Derived.Deep.MidRow
import Derived.Deep.QuietTactic
import Derived.Deep.RegionHeld3
import Derived.Deep.RegionLaw
import Derived.Deep.Slices
import Derived.Deep.Strs
import Derived.Defers
import Derived.JoinedOf
import Derived.Laws.AppendOwn
import Derived.Laws.CopyOwn
import Derived.Laws.MakeOwn
import Derived.Laws.OwnMore
import Derived.Laws.ResultCell
import Derived.Laws.StructEq
import Derived.Lib.Hide
import Derived.Lib.SmallJoins
import Derived.Maps.AppendAt
import Derived.Maps.RangeRun
import Derived.OpenShut
import Derived.ProofKit
import Derived.Shelf.GgSortFunc.InsertionK
import Derived.Shelf.SlLaysF0
import Derived.Shelf.SlSortCmp.WholeK
import Derived.Shelf.Sort.Plain
import Derived.Sort.Grow
import Derived.StillTailTactics
import Derived.WalkKit
import Derived.WalkLawsBesides
import Derived.WalkSpells
import Derived.WideKeyEntry
set_option maxRecDepth 20000
set_option linter.all false
namespace Go.Proofs.YtmafiplddapokaaGreat
open Go Go.RowKit
namespace Tl
def ofD (N:Nand) (b:Nat) (t:Tl) (d:Nat):Tl:=
 let t:=t.wore b (N.wornAt d b)
 if L.has (t.mask b) d&&decide ((N.next d b:Int)>0)then t.clean b false else t
def ofB (N:Nand) (t:Tl) (b:Nat):Tl:=(List.range N.dies).foldl (ofD N b) t
def of (N:Nand):Tl:=(List.range N.blocks).foldl (ofB N) (Dv.seeDead N (Tl.new N.dies N.blocks N.pages))
end Tl
structure Fv where
 S:Dv
 L:List En
 nx:Int
 off:Bool
namespace Fv
def lg (F:Fv):Int:=lgN F.S.N.dies F.S.N.blocks F.S.N.pages
def ask (F:Fv):Fv:={F with off:=F.off||F.S.N.off}
def told (F:Fv) (e:Int):Fv:={F with off:=F.off||e==9}
def get (F:Fv) (i:Int):List UInt8×Int:=
 if(a2J F.L i).2 then((a2J F.L i).1.data,0)
 else match Tb.look F.S.T.at_ i with
  | none=>(zeros16,0)
  | some a=>
   if a.role=2 then(zeros16,0)else if a.role=4 then(zeros16,10)
   else
    let x:=R.read F.S.N a.block a.row a.slot a.mask
    if x.2≠0\/x.1.lpn≠i\/x.1.seq≠a.seq then(zeros16,10)else(x.1.data,0)
def read (F:Fv) (i:Int):Fv×List UInt8×Int:=
 if F.ask.off then(F.ask,zeros16,9)
 else if i<0\/i>=F.ask.lg then(F.ask,zeros16,3)
 else(F.ask,F.ask.get i)
def writes (F:Fv):Fv×Int:=
 let r:=F.S.room
 if r.2≠0 then({F with S:=r.1}.told r.2,r.2)
 else
  let w:=r.1.pen F.L
  ({F with S:=w.1,L:=a0t F.L (F.L.take w.2.1.toNat)}.told w.2.2,w.2.2)
def put (F:Fv) (e:En):Fv:={F with L:=a0B F.L {e with seq:=F.nx},nx:=F.nx+1}
def waits (F:Fv) (e:En):Fv×Int:=
 if F.ask.off then(F.ask,9)
 else if e.lpn<0\/e.lpn>=F.ask.lg then(F.ask,3)
 else if(F.ask.L.length:Int)>=F.ask.S.slots then
  let w:=F.ask.writes
  if w.2≠0 then w else(w.1.put e,0)
 else(F.ask.put e,0)
def write (F:Fv) (i:Int) (d:List UInt8):Fv×Int:=F.waits ⟨i,0,1,d⟩
def trim (F:Fv) (i:Int):Fv×Int:=F.waits ⟨i,0,2,zeros16⟩
def flushGo:Nat->Fv->Fv×Int
 | 0,F=>(F,0)
 | k+1,F=>
  if F.L.length=0 then(F,0)
  else
   let w:=F.writes
   if w.2≠0 then w else flushGo k w.1
def flush (F:Fv):Fv×Int:=if F.ask.off then(F.ask,9)else flushGo F.L.length F.ask
def tick (F:Fv):Fv×Int:=
 if F.ask.off then(F.ask,9)
 else
  let s:=F.ask.S.step 4
  ({F.ask with S:=s.1}.told s.2.2,s.2.2)
def whole (F:Fv):Fv×Bool:=
 if F.ask.off then(F.ask,false)
 else({F.ask with S:=F.ask.S.seen},F.ask.S.seen.leftN==0)
end Fv
namespace Dv
def holds (S:Dv) (l:List Int) (on:Bool):Dv:={S with t:=l.foldl (λt b=>t.hold b on) S.t}
end Dv
def G9 (N:Nand):Dv×Int:=
 let s:=V.scan N (lgN N.dies N.blocks N.pages)
 let S:Dv:=⟨N,Tl.of N,s.tb,-1,0,0,max s.next 1⟩
 let a:=(S.holds s.held true).torn (s.torn.take s.first)
 if a.2≠0 then a
 else
  let b:=(a.1.holds s.held false).clear
  if b.2≠0 then b
  else
   let c:=b.1.torn (s.torn.drop s.first)
   if c.2≠0 then c else c.1.room
def Fv.of (S:Dv):Fv:=⟨S,[],0,false⟩
theorem a9u {α:Type} [BEq α] [LawfulBEq α]:∀{K M:List α},K.Nodup->(∀x∈K,x∈M)->K.length<=M.length
 | [],M,_,_=>j7 _
 | x::K,M,h,hs=>by
  obtain⟨h1,h2⟩:=List.nodup_cons.1 h;have hx:=hs x (by simp);have h3:=a9u (M:=M.erase x) h2 λy hy=>by
   have hne:y≠x:=λe=>h1 (by rw[<- e];exact hy);exact(List.mem_erase_of_ne hne).2 (hs y (by simp[hy]))
  rw[List.length_erase_of_mem hx]at h3;have:0<M.length:=b0e hx;rw[l5];omega
theorem a1f {N:Nand} (h:N.Ok):1<=lgN N.dies N.blocks N.pages/\lgN N.dies N.blocks N.pages<=200:=by
 obtain⟨hd,hb,hp⟩:=h.bd16;generalize N.dies=d at*;generalize N.blocks=b at*;generalize N.pages=p at*;have h2:3*2<=(b-5)*p:=R1 (by omega) hp.1;have h3:6*1<=(b-5)*p*(d-2):=R1 h2 (by omega);have h4:(b-5)*p<=11*8:=R1 (by omega) hp.2;have h5:(b-5)*p*(d-2)<=88*4:=R1 h4 (by omega);unfold lgN;omega
theorem b1P {N N':Nand} (h:N.Like N'):lgN N'.dies N'.blocks N'.pages=lgN N.dies N.blocks N.pages:=by rw[h.dies,h.blocks,h.pages]
theorem a3N {α:Type} {M:Nand} (f:Tl->α->Tl) (hf:∀t a,t.Fit M->(f t a).Fit M):∀(q:List α) (t:Tl),t.Fit M->(q.foldl f t).Fit M
 | [],_,h=>h
 | a::q,t,h=>a3N f hf q (f t a) (hf t a h)
theorem Tl.Fit.ofD {M N:Nand} {t:Tl} (h:t.Fit M) (b d:Nat):(Tl.ofD N b t d).Fit M:=by
 unfold Tl.ofD;dsimp only;split
 ·exact(h.wore _ _).clean _ _
 ·exact h.wore _ _
theorem Tl.Fit.ofB {M N:Nand} {t:Tl} (h:t.Fit M) (b:Nat):(Tl.ofB N t b).Fit M:=a3N _ (λ_ d h=>h.ofD b d) _ _ h
theorem Tl.Fit.new (N:Nand):(Tl.new N.dies N.blocks N.pages).Fit N:=⟨rfl,rfl,rfl,by show(List.replicate N.blocks Sb.zero).length=N.blocks;rw[X8]⟩
theorem Tl.Fit.seeDead {M N:Nand} {t:Tl} (h:t.Fit M):(Dv.seeDead N t).Fit M:=a3N _ (λt d h=>by split;(· exact h.die _);exact h) _ _ h
theorem Tl.Fit.of (N:Nand):(Tl.of N).Fit N:=a3N _ (λ_ b h=>h.ofB b) _ _ (Tl.Fit.new N).seeDead
theorem c1k {N:Nand} (hN:N.Ok) {b r:Int} {f:Fnd} (h:f∈R.all N b r):(0<=f.slot/\f.slot<=1000)/\f.en.data.length=16:=by
 unfold R.all at h;rw[K5]at h;obtain⟨m,_,h⟩:=h;unfold R.allM at h;rw[a2n]at h;obtain⟨k,hk,h⟩:=h;rw[J5,(Y6 N b r m).1]at hk;have hs:=Dv.slots_le m;unfold R.fnd at h;split at h
 ·injection h with h;subst h;refine⟨by show(0:Int)<=((k:Nat):Int)/\((k:Nat):Int)<=1000;omega,?_⟩;show(R.enAt (R.look N b r m) k).data.length=16;unfold R.enAt;split
  ·have hl:=(Y6 N b r m).1;rw[d7,c9 (by omega)];exact(a2D hN b r m).1 _ (H6 _)
  ·exact b1I hN b r m k
 ·cases h
theorem c1A {N:Nand} (hN:N.Ok) {f:Fnd} (h:f∈V.all N):(0<=f.slot/\f.slot<=1000)/\f.en.data.length=16:=by
 unfold V.all at h;rw[K5]at h;obtain⟨b,_,h⟩:=h;rw[K5]at h;obtain⟨r,_,h⟩:=h;exact c1k hN h
theorem b7R {N:Nand} (hN:N.Ok) (n:Int):∀k,(∀x∈(V.goS N (V.all N) n k).tb.at_,0<=x.2.slot/\x.2.slot<=1000)/\(∀s∈(V.goS N (V.all N) n k).torn,s.data.length=16)/\∀s∈(V.goS N (V.all N) n k).others,s.data.length=16
 | 0=>⟨λx hx=>by simp[V.goS,Tb.new]at hx,λs hs=>by simp[V.goS]at hs,λs hs=>by simp[V.goS]at hs⟩
 | k+1=>by
  obtain⟨h1,h2,h3⟩:=b7R hN n k;rw[V.goS_succ];unfold V.step;split
  ·rename_i hs;have hm:=V.standOf_mem hs;unfold V.of at hm;obtain⟨e1,e2⟩:=c1A hN (List.mem_filter.1 hm).1;have hp:=Tb.put_slot (e:=(V.standOf (V.of (V.all N) k)).1.en) (b:=(V.standOf (V.of (V.all N) k)).1.block) (r:=(V.standOf (V.of (V.all N) k)).1.row) (m:=(V.standOf (V.of (V.all N) k)).1.mask) h1 e1;have ha:∀l:List En,(∀s∈l,s.data.length=16)->∀s∈l++[(V.standOf (V.of (V.all N) k)).1.en],s.data.length=16:=λl hl s hs=>by
    rcases List.mem_append.1 hs with hs | hs
    ·exact hl s hs
    ·rw[J4]at hs;rw[hs];exact e2
   split
   ·exact⟨hp,h2,h3⟩
   split
   ·exact⟨hp,ha _ h2,h3⟩
   ·exact⟨hp,h2,ha _ h3⟩
  ·exact⟨h1,h2,h3⟩
theorem b0n {N:Nand} (hN:N.Ok) (n:Int):(V.scan N n).tb.Ok/\(∀x∈(V.scan N n).tb.at_,0<=x.2.slot/\x.2.slot<=1000)/\(∀s∈(V.scan N n).torn,s.data.length=16)/\(1<=(V.scan N n).next/\(V.scan N n).next<=1099511627776):=by
 obtain⟨h1,h2,h3⟩:=b7R hN n (V.size n);refine⟨V.goS_ok N (V.all N) n (V.size n),h1,λs hs=>?_,V.nextOf_bd λf hf=>(b3p hf).2⟩;have hs:s∈(V.goS N (V.all N) n (V.size n)).torn++(V.goS N (V.all N) n (V.size n)).others:=hs;rcases List.mem_append.1 hs with hs | hs
 ·exact h2 s hs
 ·exact h3 s hs
theorem a9i {N:Nand} {m:Nat} (hm:m<=65536):(V.scan N m).first<=(V.scan N m).torn.length/\((V.scan N m).torn.take (V.scan N m).first).length<=m/\((V.scan N m).torn.drop (V.scan N m).first).length<=m/\(V.scan N m).torn.length<=2*m:=by
 have hsz:V.size (m:Int)=m:=by unfold V.size;omega
 have h1:=V.goS_len N (V.all N) m (V.size m);rw[hsz]at h1;have e1:(V.scan N m).first=(V.goS N (V.all N) m m).torn.length:=by show(V.goS N (V.all N) m (V.size m)).torn.length=_;rw[hsz]
 have e2:(V.scan N m).torn=(V.goS N (V.all N) m m).torn++(V.goS N (V.all N) m m).others:=by show(V.goS N (V.all N) m (V.size m)).torn++(V.goS N (V.all N) m (V.size m)).others=_;rw[hsz]
 rw[e1,e2,j9,C1,f8];omega
theorem b4z {N:Nand} (hN:N.Ok) (n:Int):(V.scan N n).held.length<=6000:=by
 have h1:=V.goS_held N (V.all N) n (V.size n);have h2:=b4i N hN;have h3:=b4M (V.goS N (V.all N) n (V.size n)).held;show(a9t (V.goS N (V.all N) n (V.size n)).held).length<=_;omega
namespace Dv
variable {S : Dv} {N : Nand} {k m : Nat}
theorem Ok.holds (h:S.Ok k m) (l:List Int) (on:Bool):(S.holds l on).Ok k m:=⟨h.gd,a3N _ (λ_ _ h=>h.hold _ _) _ _ h.t,h.T,h.sl,h.row,h.next⟩
def mt0 (N:Nand):Dv:=⟨N,Tl.of N,(V.scan N (lgN N.dies N.blocks N.pages)).tb,-1,0,0,max (V.scan N (lgN N.dies N.blocks N.pages)).next 1⟩
theorem Ok.mt0 (hG:N.Gd k m):(Dv.mt0 N).Ok k m:=by
 obtain⟨h1,h2,_,h4⟩:=b0n hG.ok (lgN N.dies N.blocks N.pages);refine⟨hG,Tl.Fit.of N,h1,h2,by show(0:Int)<=0/\(0:Int)<=8;omega,?_⟩;show 1<=max (V.scan N (lgN N.dies N.blocks N.pages)).next 1/\max (V.scan N (lgN N.dies N.blocks N.pages)).next 1<=_;omega
theorem mt0_log (hG:N.Gd k m):(Dv.mt0 N).T.logical=(lgN N.dies N.blocks N.pages:Int):=by
 have h:=a1f hG.ok;have:=V.goS_log N (V.all N) (lgN N.dies N.blocks N.pages) (V.size (lgN N.dies N.blocks N.pages));show(V.goS N (V.all N) (lgN N.dies N.blocks N.pages) (V.size (lgN N.dies N.blocks N.pages))).tb.logical=_;rw[this];omega
theorem torn_keep {l:List En} {c:Nat} (h:S.Ok (costT*c+k) m) (hl:l.length<=c) (hd:∀s∈l,s.data.length=16):(S.torn l).1.Ok k m/\S.N.Like (S.torn l).1.N/\(S.torn l).1.T.logical=S.T.logical:=
 tornGo_keep _ S l k (h.less (by have:=y9 costT hl;omega)) hd
def costK:Nat:=costT*200+(96+(costT*200+costM))
end Dv
theorem a7V (N:Nand):G9 N=(let s:=V.scan N (lgN N.dies N.blocks N.pages)
 let a:=((Dv.mt0 N).holds s.held true).torn (s.torn.take s.first)
 if a.2≠0 then a
 else
  let b:=(a.1.holds s.held false).clear
  if b.2≠0 then b
  else
   let c:=b.1.torn (s.torn.drop s.first)
   if c.2≠0 then c else c.1.room):=rfl
theorem a7U {N:Nand} {k m:Nat} (hG:N.Gd (Dv.costK+k) m):(G9 N).1.Ok k m/\N.Like (G9 N).1.N/\(G9 N).1.T.logical=(lgN N.dies N.blocks N.pages:Int):=by
 have h200:=a1f hG.ok;obtain⟨t1,t2,t3,_⟩:=a9i (N:=N) (m:=lgN N.dies N.blocks N.pages) (by omega);obtain⟨_,_,hd,_⟩:=b0n hG.ok (lgN N.dies N.blocks N.pages);have h0:=Dv.Ok.mt0 hG;have hlog:=Dv.mt0_log hG;have hd1:∀s∈(V.scan N (lgN N.dies N.blocks N.pages)).torn.take (V.scan N (lgN N.dies N.blocks N.pages)).first,s.data.length=16:=λs hs=>hd s (I8 hs)
 have hd2:∀s∈(V.scan N (lgN N.dies N.blocks N.pages)).torn.drop (V.scan N (lgN N.dies N.blocks N.pages)).first,s.data.length=16:=λs hs=>hd s (V1 hs)
 rw[a7V];dsimp only;have ha:=Dv.torn_keep (k:=96+(Dv.costT*200+(Dv.costM+k))) (c:=200) ((h0.holds (V.scan N (lgN N.dies N.blocks N.pages)).held true).less (by unfold Dv.costK;omega)) (by omega) hd1;have ea:((Dv.mt0 N).holds (V.scan N (lgN N.dies N.blocks N.pages)).held true).N=N:=rfl;have ea2:((Dv.mt0 N).holds (V.scan N (lgN N.dies N.blocks N.pages)).held true).T=(Dv.mt0 N).T:=rfl;rw[ea,ea2,hlog]at ha;split
 ·exact⟨ha.1.less (by omega),ha.2⟩
 generalize(((Dv.mt0 N).holds (V.scan N (lgN N.dies N.blocks N.pages)).held true).torn ((V.scan N (lgN N.dies N.blocks N.pages)).torn.take (V.scan N (lgN N.dies N.blocks N.pages)).first)).1=A at ha;have hb:=Dv.clear_keep (ha.1.holds (V.scan N (lgN N.dies N.blocks N.pages)).held false);have eb:(A.holds (V.scan N (lgN N.dies N.blocks N.pages)).held false).N=A.N:=rfl;have eb2:(A.holds (V.scan N (lgN N.dies N.blocks N.pages)).held false).T=A.T:=rfl;rw[eb,eb2]at hb;split
 ·exact⟨hb.1.less (by omega),ha.2.1.trans hb.2.1,by rw[hb.2.2];exact ha.2.2⟩
 have hc:=Dv.torn_keep (k:=Dv.costM+k) (c:=200) hb.1 (I7 t3 h200.2) hd2;split
 ·exact⟨hc.1.less (by omega),(ha.2.1.trans hb.2.1).trans hc.2.1,by rw[hc.2.2,hb.2.2];exact ha.2.2⟩
 have hr:=Dv.room_keep hc.1;exact⟨hr.1,((ha.2.1.trans hb.2.1).trans hc.2.1).trans hr.2.1,by rw[hr.2.2,hc.2.2,hb.2.2];exact ha.2.2⟩
structure Fv.Ok (F:Fv) (k m:Nat):Prop where
 dv:F.S.Ok k m
 dat:∀e∈F.L,e.data.length=16
 rng:∀e∈F.L,0<=e.lpn/\e.lpn<F.lg
 nd:(F.L.map (·.lpn)).Nodup
 nx:0<=F.nx/\F.nx+(k:Int)<=4611686018427387904
namespace Fv
variable {F : Fv} {k m : Nat}
theorem lg_like {F G:Fv} (h:F.S.N.Like G.S.N):G.lg=F.lg:=by unfold lg;rw[b1P h]
theorem lg_bd (h:F.S.N.Ok):1<=F.lg/\F.lg<=200:=by have:=a1f h;unfold lg;omega
theorem Ok.less (h:F.Ok k m) {k':Nat} (hk:k'<=k):F.Ok k' m:=⟨h.dv.less hk,h.dat,h.rng,h.nd,by have:=h.nx;omega⟩
theorem Ok.len (h:F.Ok k m):F.L.length<=200:=by
 have hb:=lg_bd h.dv.gd.ok;have h1:=a9u (K:=F.L.map (·.lpn)) (M:=(List.range F.lg.toNat).map λi:Nat=>(i:Int)) h.nd λx hx=>by
  obtain⟨e,he,rfl⟩:=List.mem_map.1 hx;have:=h.rng e he;exact List.mem_map.2 ⟨e.lpn.toNat,List.mem_range.2 (by omega),by omega⟩
 simp at h1;omega
theorem Ok.ask (h:F.Ok k m):F.ask.Ok k m:=⟨h.dv,h.dat,h.rng,h.nd,h.nx⟩
def cW:Nat:=Dv.costM+8*Dv.fuel
theorem done_sub (L l:List En):(a0t L l).Sublist L:=List.filter_sublist
theorem done_lt {L:List En} {n:Nat} (h:L.length≠0) (hn:1<=n):(a0t L (L.take n)).length<L.length:=by
 unfold a0t;rw[List.length_filter_lt_length_iff_exists];cases L with
 | nil=>exact absurd rfl h
 | cons x L=>
  refine⟨x,H1 ..,?_⟩;obtain⟨c,rfl⟩:∃c,n=c+1:=⟨n-1,by omega⟩;simp
structure Kept (F G:Fv):Prop where
 like:F.S.N.Like G.S.N
 log:G.S.T.logical=F.S.T.logical
theorem Kept.refl (F:Fv):Kept F F:=⟨Nand.Like.refl _,rfl⟩
theorem Kept.ask (F:Fv):Kept F F.ask:=⟨Nand.Like.refl _,rfl⟩
theorem Kept.trans {F G H:Fv} (h:Kept F G) (h2:Kept G H):Kept F H:=⟨h.like.trans h2.like,h2.log.trans h.log⟩
theorem Ok.with_ {S:Dv} {L:List En} {off:Bool} {k':Nat} (h:F.Ok k' m) (hS:S.Ok k m) (hk:k<=k') (hl:F.S.N.Like S.N) (hL:L.Sublist F.L):(⟨S,L,F.nx,off⟩:Fv).Ok k m:=
 ⟨hS,λe he=>h.dat e (hL.subset he),λe he=>by rw[lg_like (F:=F) (G:=⟨S,L,F.nx,off⟩) hl];exact h.rng e (hL.subset he),h.nd.sublist (hL.map _),by have:=h.nx;show 0<=F.nx/\F.nx+(k:Int)<=_;omega⟩
theorem writes_keep (h:F.Ok (cW+k) m):F.writes.1.Ok k m/\Kept F F.writes.1/\F.writes.1.L.length<=F.L.length/\(F.writes.2=0->F.L.length≠0->F.writes.1.L.length<F.L.length):=by
 have hr:=Dv.room_keep (S:=F.S) (k:=8*Dv.fuel+k) (m:=m) (h.dv.less (by unfold cW;omega));have he:F.writes=(let r:=F.S.room
  if r.2≠0 then({F with S:=r.1}.told r.2,r.2)
  else
   let w:=r.1.pen F.L
   ({F with S:=w.1,L:=a0t F.L (F.L.take w.2.1.toNat)}.told w.2.2,w.2.2)):=rfl
 dsimp only at he
 by_cases h0:F.S.room.2≠0
 ·rw[d8 h0]at he;rw[he];exact⟨h.with_ (hr.1.less (by omega)) (by omega) hr.2.1 (a6U _),⟨hr.2.1,hr.2.2⟩,i7 _,λe=>absurd e h0⟩
 ·rw[d6 h0]at he;have hp:=Dv.pen_keep hr.1 h.dat
  have ht:=λe hl=>Dv.pen_took hr.1 h.dat e hl;rw[he];refine⟨h.with_ hp.1 (by omega) (hr.2.1.trans hp.2.1) (done_sub _ _),⟨hr.2.1.trans hp.2.1,hp.2.2.trans hr.2.2⟩,(done_sub _ _).length_le,λe hl=>?_⟩;have:=ht e hl;exact done_lt hl (by omega)
theorem flushGo_keep:∀(f:Nat) (F:Fv) (k:Nat),F.Ok (cW*f+k) m->(flushGo f F).1.Ok k m/\Kept F (flushGo f F).1
 | 0,F,k,h=>⟨h.less (by omega), .refl _⟩
 | f+1,F,k,h=>by
  rw[flushGo];split
  ·exact⟨h.less (by omega), .refl _⟩
  have hw:=writes_keep (F:=F) (k:=cW*f+k) (h.less (by rw[H3];omega));dsimp only;split
  ·exact⟨hw.1.less (by omega),hw.2.1⟩
  ·have ih:=flushGo_keep f F.writes.1 k hw.1;exact⟨ih.1,hw.2.1.trans ih.2⟩
theorem flush_keep (h:F.Ok (cW*200+k) m):F.flush.1.Ok k m/\Kept F F.flush.1:=by
 unfold flush;split
 ·exact⟨h.ask.less (by omega), .ask _⟩
 ·have hl:=h.len;have hm:cW*F.L.length<=cW*200:=y9 _ hl;have r:=flushGo_keep F.L.length F.ask k (h.ask.less (by omega));exact⟨r.1,⟨r.2.like,r.2.log⟩⟩
theorem put_ok (h:F.Ok (1+k) m) {e:En} (hd:e.data.length=16) (hr:¬(e.lpn<0\/e.lpn>=F.lg)):(F.put e).Ok k m:=by
 have hlg:(F.put e).lg=F.lg:=rfl;refine⟨h.dv.less (by omega),λx hx=>?_,λx hx=>?_,?_,by have:=h.nx;show 0<=F.nx+1/\F.nx+1+(k:Int)<=_;omega⟩
 ·have hx:x∈(F.L.filter λy:En=>!(y.lpn==e.lpn))++[({e with seq:=F.nx}:En)]:=hx;rcases List.mem_append.1 hx with hx | hx
  ·exact h.dat x (List.mem_filter.1 hx).1
  ·rw[J4]at hx;rw[hx];exact hd
 ·have hx:x∈(F.L.filter λy:En=>!(y.lpn==e.lpn))++[({e with seq:=F.nx}:En)]:=hx;rw[hlg];rcases List.mem_append.1 hx with hx | hx
  ·exact h.rng x (List.mem_filter.1 hx).1
  ·rw[J4]at hx;rw[hx];show 0<=e.lpn/\e.lpn<F.lg;omega
 ·show(((F.L.filter λy:En=>!(y.lpn==e.lpn))++[({e with seq:=F.nx}:En)]).map (·.lpn)).Nodup;rw[t7,M4];refine⟨List.Nodup.sublist ((List.filter_sublist (p:=λx:En=>!(x.lpn==e.lpn)) (l:=F.L)).map (·.lpn)) h.nd,by simp,λa ha b hb hab=>?_⟩;obtain⟨x,hx,rfl⟩:=List.mem_map.1 ha;simp at hb;have:=(List.mem_filter.1 hx).2;rw[hab,hb]at this;simp at this
theorem waits_keep (h:F.Ok (cW+(1+k)) m) {e:En} (hd:e.data.length=16):(F.waits e).1.Ok k m/\Kept F (F.waits e).1:=by
 unfold waits;split
 ·exact⟨h.ask.less (by omega), .ask _⟩
 split
 ·exact⟨h.ask.less (by omega), .ask _⟩
 rename_i hr;have hr:¬(e.lpn<0\/e.lpn>=F.lg):=hr;split
 ·have hw:=writes_keep h.ask;dsimp only;split
  ·exact⟨hw.1.less (by omega),⟨hw.2.1.like,hw.2.1.log⟩⟩
  ·refine⟨put_ok hw.1 hd ?_,⟨hw.2.1.like,hw.2.1.log⟩⟩;rw[lg_like (F:=F) (G:=F.ask.writes.1) hw.2.1.like];exact hr
 ·exact⟨put_ok (h.ask.less (by omega)) hd hr,⟨Nand.Like.refl _,rfl⟩⟩
theorem write_keep (h:F.Ok (cW+(1+k)) m) (i:Int) {d:List UInt8} (hd:d.length=16):(F.write i d).1.Ok k m/\Kept F (F.write i d).1:=waits_keep h hd
theorem trim_keep (h:F.Ok (cW+(1+k)) m) (i:Int):(F.trim i).1.Ok k m/\Kept F (F.trim i).1:=waits_keep h rfl
theorem tick_keep (h:F.Ok (Dv.costS+k) m):F.tick.1.Ok k m/\Kept F F.tick.1:=by
 unfold tick;split
 ·exact⟨h.ask.less (by omega), .ask _⟩
 ·have hs:=Dv.step_keep h.ask.dv 4;exact⟨h.ask.with_ hs.1 (by omega) hs.2.1 (a6U _),⟨hs.2.1,hs.2.2⟩⟩
theorem whole_keep (h:F.Ok k m):F.whole.1.Ok k m/\Kept F F.whole.1:=by
 unfold whole;split
 ·exact⟨h.ask, .ask _⟩
 ·exact⟨h.ask.with_ h.dv.seen (i7 _) (Nand.Like.refl _) (a6U _),⟨Nand.Like.refl _,rfl⟩⟩
theorem read_keep (h:F.Ok k m) (i:Int):(F.read i).1.Ok k m/\Kept F (F.read i).1:=by
 unfold read;split
 ·exact⟨h.ask, .ask _⟩
 split
 ·exact⟨h.ask, .ask _⟩
 ·exact⟨h.ask, .ask _⟩
theorem of_ok {S:Dv} (h:S.Ok k m) (hk:k<=1000000000000000):(Fv.of S).Ok k m:=⟨h,λ_ h=>(by cases h),λ_ h=>(by cases h),a5E,by show(0:Int)<=0/\(0:Int)+(k:Int)<=_;omega⟩
end Fv
theorem Tl.set_dead2 (t:Tl) (k:Int) (s:Sb):(t.set k s).dead=t.dead/\(t.set k s).d=t.d/\(t.set k s).b=t.b:=by unfold Tl.set;split<;>exact⟨rfl,rfl,rfl⟩
theorem b0m {N:Nand} {t:Tl} (hd:t.d=N.dies) (h6:N.dies<=6) (hs:L.set t.dead=true):L.set (Dv.seeDead N t).dead=true/\(∀e:Int,L.has (Dv.seeDead N t).dead e=(L.has t.dead e||N.deadAt e))/\(Dv.seeDead N t).l=t.l/\(Dv.seeDead N t).b=t.b/\(Dv.seeDead N t).d=t.d:=by
 have key:∀n,n<=t.d->∀u,u=(List.range n).foldl (λ(t:Tl) (d:Nat)=>if N.deadAt d then t.die d else t) t->L.set u.dead=true/\(∀e:Int,L.has u.dead e=(L.has t.dead e||(decide (e<n)&&N.deadAt e)))/\u.l=t.l/\u.b=t.b/\u.d=t.d:=by
  intro n
  induction n with
  | zero=>
   intro _ u hu;subst hu;refine⟨hs,λe=>?_,rfl,rfl,rfl⟩;have:(decide (e<((0:Nat):Int))&&N.deadAt e)=false:=by
    cases h:N.deadAt e with
    | false=>simp
    | true=>
     unfold Nand.deadAt at h;simp only[f7,d5]at h;rw[n8 (by omega),X6]
   rw[this,Bool.or_false]
  | succ n ih=>
   intro hn u hu;rw[s9,B3]at hu;obtain⟨v,hv⟩:∃v,v=(List.range n).foldl (λ(t:Tl) (d:Nat)=>if N.deadAt d then t.die d else t) t:=⟨_,rfl⟩;rw[<- hv]at hu;obtain⟨a1,a2,a3,a4,a5⟩:=ih (by omega) v hv;have hu:u=if N.deadAt n then v.die n else v:=hu
   cases hdd:N.deadAt n with
   | false=>
    rw[hdd,d6 l9]at hu;rw[hu];refine⟨a1,λe=>?_,a3,a4,a5⟩;rw[a2]
    by_cases he:e=(n:Int)
    ·rw[he,hdd];simp
    ·have:decide (e<((n+1:Nat):Int))=decide (e<(n:Int)):=by
      by_cases h:e<(n:Int)
      ·rw[i6 h,i6 (by omega)]
      ·rw[n8 h,n8 (by omega)]
     rw[this]
   | true=>
    rw[hdd,d8 rfl]at hu;have hdie:v.die n=⟨v.d,v.b,v.p,v.l,L.with_ v.dead n⟩:=by
     unfold Tl.die;rw[d8];unfold Tl.hasDie;rw[i6 (by omega),i6 (by omega)];rfl
    rw[hdie]at hu;rw[hu];refine⟨L.set_with a1 (by omega),λe=>?_,a3,a4,a5⟩;show L.has (L.with_ v.dead n) e=_;rw[L.with_has a1 (by omega),a2]
    by_cases he:e=(n:Int)
    ·rw[he,hdd,i6 (show(n:Int)<((n+1:Nat):Int)by omega)];simp
    ·have:decide (e<((n+1:Nat):Int))=decide (e<(n:Int)):=by
      by_cases h:e<(n:Int)
      ·rw[i6 h,i6 (by omega)]
      ·rw[n8 h,n8 (by omega)]
     rw[this,n8 he,Bool.or_false]
 obtain⟨b1,b2,b3,b4,b5⟩:=key t.d (i7 _) _ rfl;refine⟨b1,λe=>?_,b3,b4,b5⟩;show L.has ((List.range t.d).foldl (λ(t:Tl) (d:Nat)=>if N.deadAt d then t.die d else t) t).dead e=_;rw[b2];cases h:N.deadAt e with
 | false=>simp
 | true=>
  unfold Nand.deadAt at h;simp only[f7,d5]at h;rw[i6 (by omega)];rfl
def a4o (dd:Int) (N:Nand) (b k:Nat):Bool:=(List.range k).any λd=>!L.has dd (d:Nat)&&decide ((N.blk d b).cells≠[])
theorem b2w (dd:Int) (N:Nand) (b k:Nat):a4o dd N b (k+1)=(a4o dd N b k||(!L.has dd (k:Nat)&&decide ((N.blk k b).cells≠[]))):=by
 unfold a4o;rw[s9,List.any_append];simp
namespace Tl
variable {N : Nand} {t : Tl}
theorem ofD_spec (hF:t.Fit N) (h6:N.dies<=6) (hs:L.set t.dead=true) {b d:Nat} (hb:b<N.blocks) (hbad:(t.at_ b).bad=0) (hd:d<N.dies):
  (ofD N b t d).dead=t.dead/\(ofD N b t d).Fit N/\(∀x:Nat,x<N.blocks->x≠b->(ofD N b t d).at_ x=t.at_ x)/\((ofD N b t d).at_ b).bad=0/\((ofD N b t d).at_ b).held=(t.at_ b).held/\((ofD N b t d).at_ b).used=((t.at_ b).used||(!L.has t.dead (d:Nat)&&decide ((N.blk d b).cells≠[]))):=by
 have hh:∀x:Nat,x<N.blocks->t.has (x:Int)=true:=λx hx=>Tl.has_iff.2 (by have:=hF.b;omega);obtain⟨u,hu⟩:∃u,t.wore b (N.wornAt d b)=u:=⟨_,rfl⟩;have hud:u.dead=t.dead/\u.d=t.d/\u.b=t.b:=by rw[<- hu];exact Tl.set_dead2 _ _ _
 have huF:u.Fit N:=by rw[<- hu];exact hF.wore _ _
 have huh:∀x:Nat,x<N.blocks->u.has (x:Int)=true:=λx hx=>Tl.has_iff.2 (by have:=huF.b;omega);have hua:∀x:Nat,x<N.blocks->u.at_ x=if(x:Int)=(b:Int)then {t.at_ b with wear:=if N.wornAt d b>(t.at_ b).wear then N.wornAt d b else(t.at_ b).wear}else t.at_ x:=λx hx=>by
  rw[<- hu];exact Tl.at_set (by rw[hF.len]) _ (hh b hb) (hh x hx)
 have hub:=hua b hb;rw[d8 rfl]at hub;have hmk:L.has (u.mask b) (d:Nat)= !L.has t.dead (d:Nat):=by
  have h1:=(a0l (t:=u) (b:=b) (by have:=huF.d;omega) (huh b hb) (by rw[hud.1];exact hs) (by rw[hub];show L.set (t.at_ b).bad=true;rw[hbad];decide)).2 (d:Nat);rw[h1,hud.1,hub];show(((decide ((0:Int)<=(d:Nat))&&decide (((d:Nat):Int)<u.d))&& !L.has t.dead (d:Nat))&& !L.has (t.at_ b).bad (d:Nat))=_;rw[hbad,L.has_zero,i6 (by omega),i6 (by have:=huF.d;omega)];simp
 have hnx:decide ((N.next d b:Int)>0)=decide ((N.blk d b).cells≠[]):=by
  unfold Nand.next;rw[d8 ⟨by omega,by omega,by omega,by omega⟩,j4,j4];cases(N.blk d b).cells with
  | nil=>rfl
  | cons c l=>rw[i6 (by rw[l5];omega),i6 (by simp)]
 have hof:ofD N b t d=if(!L.has t.dead (d:Nat)&&decide ((N.blk d b).cells≠[]))then u.clean b false else u:=by
  unfold ofD;rw[hu];dsimp only;rw[hmk,hnx]
 rw[hof];split
 ·rename_i hc;rw[hc];have hca:∀x:Nat,x<N.blocks->(u.clean b false).at_ x=if(x:Int)=(b:Int)then {u.at_ b with used:=!false}else u.at_ x:=λx hx=>Tl.at_set (by rw[huF.len]) _ (huh b hb) (huh x hx)
  have hcb:=hca b hb;rw[d8 rfl]at hcb;have hx:=Tl.set_dead2 u b {u.at_ b with used:=!false};refine⟨hx.1.trans hud.1,huF.clean _ _,λx hx hne=>?_,?_,?_,?_⟩
  ·rw[hca x hx,d6 (by omega),hua x hx,d6 (by omega)]
  ·rw[hcb,hub];exact hbad
  ·rw[hcb,hub]
  ·rw[hcb];simp
 ·rename_i hc;have hc:(!L.has t.dead (d:Nat)&&decide ((N.blk d b).cells≠[]))=false:=by simpa using hc
  rw[hc];refine⟨hud.1,huF,λx hx hne=>?_,?_,?_,?_⟩
  ·rw[hua x hx,d6 (by omega)]
  ·rw[hub];exact hbad
  ·rw[hub]
  ·rw[hub];simp
structure OfS (N:Nand) (t0:Tl) (n:Nat) (t:Tl):Prop where
 fit:t.Fit N
 dead:t.dead=t0.dead
 at_:∀b:Nat,b<N.blocks->(t.at_ b).bad=0/\(t.at_ b).held=false/\(t.at_ b).used=(decide (b<n)&&a4o t0.dead N b N.dies)
theorem ofB_spec {t0:Tl} {n:Nat} (h:OfS N t0 n t) (h6:N.dies<=6) (hs:L.set t0.dead=true) (hn:n<N.blocks):OfS N t0 (n+1) (ofB N t n):=by
 have key:∀k,k<=N.dies->∀u,u=(List.range k).foldl (ofD N n) t->u.Fit N/\u.dead=t0.dead/\(∀x:Nat,x<N.blocks->x≠n->u.at_ x=t.at_ x)/\(u.at_ n).bad=0/\(u.at_ n).held=false/\(u.at_ n).used=a4o t0.dead N n k:=by
  intro k
  induction k with
  | zero=>
   intro _ u hu;subst hu;obtain⟨a1,a2,a3⟩:=h.at_ n hn;exact⟨h.fit,h.dead,λ_ _ _=>rfl,a1,a2,a3.trans (by rw[n8 (Nat.lt_irrefl _)];rfl)⟩
  | succ k ih=>
   intro hk u hu;rw[s9,B3]at hu;obtain⟨v,hv⟩:∃v,v=(List.range k).foldl (ofD N n) t:=⟨_,rfl⟩;rw[<- hv]at hu;have hu:u=ofD N n v k:=hu;obtain⟨a1,a2,a3,a4,a5,a6⟩:=ih (by omega) v hv;obtain⟨b1,b2,b3,b4,b5,b6⟩:=ofD_spec a1 h6 (by rw[a2];exact hs) hn a4 (show k<N.dies by omega);rw[hu];refine⟨b2,b1.trans a2,λx hx hne=>(b3 x hx hne).trans (a3 x hx hne),b4,b5.trans a5,?_⟩;rw[b6,a6,a2,b2w]
 obtain⟨c1,c2,c3,c4,c5,c6⟩:=key N.dies (i7 _) _ rfl;refine⟨c1,c2,λb hb=>?_⟩
 by_cases e:b=n
 ·subst e;refine⟨c4,c5,?_⟩;show(((List.range N.dies).foldl (ofD N b) t).at_ b).used=_;rw[c6,i6 (by omega)];rfl
 ·obtain⟨a1,a2,a3⟩:=h.at_ b hb;have:=c3 b hb e;show(((List.range N.dies).foldl (ofD N n) t).at_ b).bad=0/\(((List.range N.dies).foldl (ofD N n) t).at_ b).held=false/\(((List.range N.dies).foldl (ofD N n) t).at_ b).used=_;rw[this];refine⟨a1,a2,a3.trans ?_⟩
  by_cases hlt:b<n
  ·rw[i6 hlt,i6 (by omega)]
  ·rw[n8 hlt,n8 (by omega)]
theorem of_spec (hN:N.Ok):L.set (Tl.of N).dead=true/\(∀e:Int,L.has (Tl.of N).dead e=N.deadAt e)/\∀b:Nat,b<N.blocks->((Tl.of N).at_ b).bad=0/\((Tl.of N).at_ b).held=false/\((Tl.of N).at_ b).used=a4o (Tl.of N).dead N b N.dies:=by
 have hg:=hN.bd16;obtain⟨s1,s2,s3,s4,s5⟩:=b0m (N:=N) (t:=Tl.new N.dies N.blocks N.pages) rfl (by omega) (by show L.set 0=true;decide);have h0:OfS N (Dv.seeDead N (Tl.new N.dies N.blocks N.pages)) 0 (Dv.seeDead N (Tl.new N.dies N.blocks N.pages)):=by
  refine⟨(Tl.Fit.new N).seeDead,rfl,λb hb=>?_⟩;have:(Dv.seeDead N (Tl.new N.dies N.blocks N.pages)).at_ b=Sb.zero:=by
   unfold Tl.at_;rw[s3];show(List.replicate N.blocks Sb.zero).getD _ Sb.zero=Sb.zero;rw[d7,E9];split<;>rfl
  rw[this];exact⟨rfl,rfl,rfl⟩
 have key:∀n,n<=N.blocks->OfS N (Dv.seeDead N (Tl.new N.dies N.blocks N.pages)) n ((List.range n).foldl (ofB N) (Dv.seeDead N (Tl.new N.dies N.blocks N.pages))):=by
  intro n
  induction n with
  | zero=>intro _;exact h0
  | succ n ih=>
   intro hn;rw[s9,B3];exact ofB_spec (ih (by omega)) (by omega) s1 (by omega)
 have hk:=key N.blocks (i7 _);have hof:Tl.of N=(List.range N.blocks).foldl (ofB N) (Dv.seeDead N (Tl.new N.dies N.blocks N.pages)):=rfl;rw[<- hof]at hk;refine⟨by rw[hk.dead];exact s1,λe=>?_,λb hb=>?_⟩
 ·rw[hk.dead,s2];show(L.has 0 e||N.deadAt e)=N.deadAt e;rw[L.has_zero,D2]
 ·obtain⟨a1,a2,a3⟩:=hk.at_ b hb;refine⟨a1,a2,?_⟩;rw[a3,hk.dead,i6 hb,q9]
end Tl
theorem V.stand_max:∀(n:Nat) (l:List Fnd),l.length=n->∀g∈l,g.en.seq<=(V.standOf l).1.en.seq/\(g.en.seq=(V.standOf l).1.en.seq->g.whole=true->(V.standOf l).1.whole=true)
 | 0,l,hl,g,hg=>by rw[n5 hl]at hg;cases hg
 | n+1,l,hl,g,hg=>by
  obtain⟨l',x,rfl⟩:∃l' x,l=l'++[x]:=⟨l.dropLast,l.getLast (λe=>by rw[e]at hl;cases hl),(a0Q _).symm⟩;have hl':l'.length=n:=by simpa using hl
  have ih:=V.stand_max n l' hl';rw[V.standOf_snoc];split
  ·rename_i hc;show g.en.seq<=x.en.seq/\(g.en.seq=x.en.seq->g.whole=true->x.whole=true);rcases List.mem_append.1 hg with hg | hg
   ·rcases hc with hc | hc
    ·exfalso
     rw[V.standOf_true l' (λe=>by rw[e]at hg;cases hg)]at hc;cases hc
    ·have h1:=ih g hg;unfold V.behind at hc;split at hc
     ·have hc:=a2M hc;exact⟨by omega,λe=>by omega⟩
     ·rename_i heq;have heq:(V.standOf l').1.en.seq=x.en.seq:=I1 λh=>heq h;rw[f7]at hc;exact⟨by omega,λ_ _=>hc.1⟩
   ·rw[J4]at hg;rw[hg];exact⟨J7 _,λ_ h=>h⟩
  ·rename_i hc;rcases List.mem_append.1 hg with hg | hg
   ·exact ih g hg
   ·rw[J4]at hg;rw[hg];have hb:V.behind (V.standOf l').1 x=false:=by
     cases h:V.behind (V.standOf l').1 x with
     | false=>rfl
     | true=>exact absurd (.inr h) hc
    unfold V.behind at hb;split at hb
    ·rename_i hne;have hb:=of_decide_eq_false hb;exact⟨by omega,λe=>absurd e.symm hne⟩
    ·rename_i heq;have heq:(V.standOf l').1.en.seq=x.en.seq:=I1 λh=>heq h;refine⟨by omega,λ_ hw=>?_⟩;rw[hw,q9]at hb;simpa using hb
theorem V.mem_all {N:Nand} {f:Fnd}:f∈V.all N↔∃b r:Nat,b<N.blocks/\r<N.pages/\f∈R.all N b r:=by
 unfold V.all;simp only[K5,J5];constructor
 ·rintro⟨b,hb,r,hr,hf⟩;exact⟨b,r,hb,hr,hf⟩
 ·rintro⟨b,r,hb,hr,hf⟩;exact⟨b,hb,r,hr,hf⟩
theorem V.nextOf_ge:∀(n:Nat) (l:List Fnd),l.length=n->∀f∈l,f.en.seq+1<=V.nextOf l
 | 0,l,hl,g,hg=>by rw[n5 hl]at hg;cases hg
 | n+1,l,hl,g,hg=>by
  obtain⟨l',x,rfl⟩:∃l' x,l=l'++[x]:=⟨l.dropLast,l.getLast (λe=>by rw[e]at hl;cases hl),(a0Q _).symm⟩;have hl':l'.length=n:=by simpa using hl
  rw[V.nextOf_snoc];rcases List.mem_append.1 hg with hg | hg
  ·have:=V.nextOf_ge n l' hl' g hg;omega
  ·rw[J4]at hg;rw[hg];omega
theorem b4y (N:Nand) {n:Nat} (hn:n<=65536) (i:Nat):Tb.look (V.scan N n).tb.at_ (i:Int)=if i<n/\(V.standOf (V.of (V.all N) i)).2=true/\Tb.ok (Tb.new n) (V.standOf (V.of (V.all N) i)).1.en=true then some ⟨(V.standOf (V.of (V.all N) i)).1.block,(V.standOf (V.of (V.all N) i)).1.row,(V.standOf (V.of (V.all N) i)).1.slot,(V.standOf (V.of (V.all N) i)).1.mask,(V.standOf (V.of (V.all N) i)).1.en.seq,(V.standOf (V.of (V.all N) i)).1.en.role⟩else none:=by
 have hsz:V.size (n:Int)=n:=by unfold V.size;omega
 have key:=V.goS_look N (V.all N) n n i;rw[<- key];show Tb.look (V.goS N (V.all N) n (V.size n)).tb.at_ (i:Int)=_;rw[hsz]
theorem a9A {α β:Type} (g:Int->β):∀(l:List (Int×α)) (i:Int),Tb.look (l.map λx=>(x.1,g x.1)) i=if(Tb.look l i).isSome=true then some (g i)else none
 | [],i=>rfl
 | x::l,i=>by
  rw[n4];unfold Tb.look
  by_cases h:i=x.1
  ·rw[d8 h,d8 h,h];rfl
  ·rw[d6 h,d6 h];exact a9A g l i
theorem b1Y {fd:Int} {N:Nand} (h3:3<=N.dies):∃i:Nat,i<N.dies/\(i:Int)≠fd:=by
 by_cases h:fd=0
 ·exact⟨1,by omega,by omega⟩
 ·exact⟨0,by omega,λe=>h e.symm⟩
namespace GI
variable {fd : Int} {W : List (Int × En)} {S : Dv} {k m : Nat}
theorem stand (h:GI fd W S) (hO:S.Ok k m) {i:Int} {a:AtV} (ha:Tb.look S.T.at_ i=some a):
  ∃w f,Tb.look W i=some w/\V.standOf (V.of (V.all S.N) i)=(f,true)/\f∈V.all S.N/\f.en={w with seq:=a.seq}/\f.block=a.block/\f.row=a.row/\f.mask=a.mask/\(∃l,∃k:Nat,FullW fd S.N a.block a.row a.mask l k/\f.slot=k/\k<l.length/\l.getD k En.zero=f.en)/\f.whole=((M.look S.N (G.parity a.mask a.block a.row) a.block a.row).2==1):=by
 have hg:=hO.gd.ok.bd16;have hoff:=h.inv.lit.off;obtain⟨w,hw⟩:∃w,Tb.look W i=some w:=by
  cases hw:Tb.look W i with
  | none=>rw[h.hd.none hw]at ha;cases ha
  | some w=>exact⟨w,rfl⟩
 obtain⟨l,g1,g2,g3,g4,g5,g6⟩:=(h.inv.st i a ha).row;obtain⟨_,a',ha',hrd⟩:=h.hd.each i w hw;rw[ha]at ha';injection ha' with ha';subst ha';have hslot:((a.slot.toNat:Nat):Int)=a.slot:=W3 g2;have hle:l.getD a.slot.toNat En.zero={w with seq:=a.seq}:=by
  have:=g1.read hoff h.inv.dead g3;rw[hslot,hrd]at this;injection this with this _;exact this.symm
 have hwk:=h.wok i w hw;have hr3:(l.getD a.slot.toNat En.zero).role≠3:=by
  rw[hle];show w.role≠3;rcases hwk.2.role with e | ⟨e | e,_⟩<;>omega
 have hmk:=h.msk i a ha;obtain⟨i0,hi0,hne0⟩:=b1Y (fd:=fd) hg.1.1;have hm0:=hmk.all i0 hi0 hne0;obtain⟨f0,f1,f2,f3,f4⟩:=g1.found2 hoff h.inv.dead ⟨i0,hne0,hm0⟩ g3 hr3;have hblk:=g1.is.blk;have hrow:=g1.is.row;have hf0:f0∈V.all S.N:=V.mem_all.2 ⟨a.block.toNat,a.row.toNat,by omega,by omega,by rw[W3 hblk.1,W3 hrow.1];exact f1⟩;have hf0L:f0∈V.of (V.all S.N) i:=List.mem_filter.2 ⟨hf0,by rw[f2,g4];simp⟩;have hne:V.of (V.all S.N) i≠[]:=λe=>by rw[e]at hf0L;cases hf0L
 have htr:=V.standOf_true _ hne;obtain⟨f,hf⟩:∃f,(V.standOf (V.of (V.all S.N) i)).1=f:=⟨_,rfl⟩;have hst:V.standOf (V.of (V.all S.N) i)=(f,true):=by rw[<- hf,<- htr]
 have hfL:f∈V.of (V.all S.N) i:=by rw[<- hf];exact V.standOf_mem htr
 obtain⟨hfa,hfi⟩:=List.mem_filter.1 hfL;have hfi:f.en.lpn=i:=a4m hfi;have hmax:=(V.stand_max _ _ rfl f0 hf0L).1;rw[hf,f2,g5]at hmax;obtain⟨b,r,hb,hr,hfr⟩:=V.mem_all.1 hfa;obtain⟨e1,e2,_⟩:=a6b hfr;rcases(h.dsc b r hb hr).fnd hoff hg.1 hfr with⟨a',ha',hlt⟩ | ⟨⟨w',a',hw',ha',hcs⟩,hmf,l',hev,k',hk',hsl,hen,hrd',hwh⟩
 ·rw[hfi,ha]at ha';injection ha' with ha';subst ha';omega
 ·rw[hfi,ha]at ha';injection ha' with ha';subst ha';rw[hfi,hw]at hw';injection hw' with hw';subst hw';rcases hcs with hlt | ⟨c1,c2,c3,c4,c5⟩
  ·omega
  ·rw[<- c2,<- c3]at hev hrd' hwh;have hm0':∀i0:Nat,(i0:Int)≠fd->i0<S.N.dies->L.has f.mask (i0:Nat)=true:=λi0 hne0 hi0=>by
    have hall:=L.all_has S.N.dies (by omega);rcases hmf with e | ⟨d,e,hd,e'⟩
    ·rw[e,hall,i6 (by omega),i6 (by omega)];rfl
    ·rw[e',L.without_has (L.set_all S.N.dies (by omega)) (by omega),hall,i6 (by omega),i6 (by omega),n8 (by omega)];rfl
   have hmask:=g1.mask_eq hoff h.inv.dead ⟨i0,hne0,hm0⟩ hm0' hev;have hlen:l'.length=l.length:=by
    have x1:=hev.is.len;have x2:=g1.is.len;rw[hmask]at x1;omega
   refine⟨w,f,hw,hst,hfa,?_,by rw[e1,c2],by rw[e2,c3],hmask,?_,?_⟩
   ·have hfe:f.en=⟨f.en.lpn,f.en.seq,f.en.role,f.en.data⟩:=rfl;rw[hfe,hfi,c1,c4,c5,<- hwk.1]
   ·rw[hmask,hsl]at hrd';have hge:=g1.read_eq hoff (k:=k') (by omega) hrd';exact⟨l,k',g1.at_ (by omega) (by rw[hge,g5];exact c1),hsl,by omega,hge⟩
   ·rw[hwh];unfold gOf;rw[X0,hmask]
theorem stand_none (h:GI fd W S) (hO:S.Ok k m) {i:Int} (ha:Tb.look S.T.at_ i=none):(V.standOf (V.of (V.all S.N) i)).2=false:=by
 have hg:=hO.gd.ok.bd16;cases htr:(V.standOf (V.of (V.all S.N) i)).2 with
 | false=>rfl
 | true=>
  exfalso
  have hfL:=V.standOf_mem htr;obtain⟨hfa,hfi⟩:=List.mem_filter.1 hfL;have hfi:=a4m hfi;obtain⟨b,r,hb,hr,hfr⟩:=V.mem_all.1 hfa;rcases(h.dsc b r hb hr).fnd h.inv.lit.off hg.1 hfr with⟨a',ha',_⟩ | ⟨⟨w',a',hw',ha',_⟩,_⟩
  ·rw[hfi,ha]at ha';cases ha'
  ·rw[hfi,ha]at ha';cases ha'
theorem table (h:GI fd W S) (hO:S.Ok k m) (hlog:S.T.logical=(lgN S.N.dies S.N.blocks S.N.pages:Int)) (i:Int):
  (Tb.look S.T.at_ i=none->Tb.look (Dv.mt0 S.N).T.at_ i=none)/\
  ∀a,Tb.look S.T.at_ i=some a->∃w f a',Tb.look W i=some w/\V.standOf (V.of (V.all S.N) i)=(f,true)/\f∈V.all S.N/\f.en={w with seq:=a.seq}/\Tb.look (Dv.mt0 S.N).T.at_ i=some a'/\a'=⟨a.block,a.row,f.slot,a.mask,a.seq,w.role⟩/\(∃l,∃k:Nat,FullW fd S.N a.block a.row a.mask l k/\f.slot=k/\k<l.length/\l.getD k En.zero=f.en)/\f.whole=((M.look S.N (G.parity a.mask a.block a.row) a.block a.row).2==1):=by
 have h200:=a1f hO.gd.ok;have hsl:∀j:Nat,Tb.look (Dv.mt0 S.N).T.at_ (j:Int)=_:=λj=>b4y S.N (n:=lgN S.N.dies S.N.blocks S.N.pages) (by omega) j;have htOk:(Dv.mt0 S.N).T.Ok:=(Dv.Ok.mt0 hO.gd).T;have hlog0:=Dv.mt0_log hO.gd;constructor
 ·intro hn;cases hx:Tb.look (Dv.mt0 S.N).T.at_ i with
  | none=>rfl
  | some x=>
   exfalso
   have hr:=htOk.rng _ (Tb.look_mem hx);rw[hlog0]at hr;obtain⟨j,rfl⟩:=f9 hr.1;rw[hsl j,h.stand_none hO hn,d6 (by simp)]at hx;cases hx
 ·intro a ha;have hr:=hO.T.rng _ (Tb.look_mem ha);rw[hlog]at hr;obtain⟨j,rfl⟩:=f9 hr.1;obtain⟨w,f,h1,h2,h3,h4,h5,h6,h7,h8,h9⟩:=h.stand hO ha;have hwk:=h.wok _ w h1;have hx:=hsl j;rw[h2]at hx;dsimp only at hx;rw[h4,h5,h6,h7,d8 ⟨by omega,rfl,by
   unfold Tb.ok;show(!(decide (w.lpn<0)||decide (w.lpn>=min (max ((lgN S.N.dies S.N.blocks S.N.pages:Nat):Int) 0) 65536)||(w.role !=1&&w.role !=2&&w.role !=4)))=true;rw[hwk.1,n8 (by omega),n8 (by omega)];rcases hwk.2.role with e | ⟨e | e,_⟩<;>rw[e]<;>rfl⟩]at hx
  exact⟨w,f,_,h1,h2,h3,h4,hx,rfl,h8,h9⟩
theorem mt0 (h:GI fd W S) (hO:S.Ok k m) (hlog:S.T.logical=(lgN S.N.dies S.N.blocks S.N.pages:Int)):
  ∃W',(∀i,Tb.look W' i=Tb.look W i)/\W'.length<=W.length/\GI fd W' (Dv.mt0 S.N)/\(∀b,(Dv.mt0 S.N).t.has b=true->((Dv.mt0 S.N).t.at_ b).held=false)/\∀i a',Tb.look (Dv.mt0 S.N).T.at_ i=some a'->∃a,Tb.look S.T.at_ i=some a/\a'.block=a.block:=by
 have hg:=hO.gd.ok.bd16;have h200:=a1f hO.gd.ok;have hO0:(Dv.mt0 S.N).Ok k m:=Dv.Ok.mt0 hO.gd;have hlog0:=Dv.mt0_log hO.gd;obtain⟨t1,t2,t3⟩:=Tl.of_spec hO.gd.ok;have hhas:∀b,(Dv.mt0 S.N).t.has b=true->∃j:Nat,b=(j:Int)/\j<S.N.blocks:=λb hb=>by
  have hb:=Tl.has_iff.1 hb;have hb2:=hO0.t.b;have hb3:(Dv.mt0 S.N).N.blocks=S.N.blocks:=rfl;obtain⟨j,rfl⟩:=f9 hb.1;exact⟨j,rfl,by omega⟩
 have hdd:∀d:Nat,(d:Int)≠fd->L.has (Tl.of S.N).dead (d:Nat)=false:=λd hd=>by
  rw[t2];unfold Nand.deadAt;rw[j4,h.inv.dead d hd,Bool.and_false]
 have hall:=λi=>h.table hO hlog i;have hsome:∀i a',Tb.look (Dv.mt0 S.N).T.at_ i=some a'->∃a w f,Tb.look S.T.at_ i=some a/\Tb.look W i=some w/\f∈V.all S.N/\f.en={w with seq:=a.seq}/\a'=⟨a.block,a.row,f.slot,a.mask,a.seq,w.role⟩/\∃l,∃k:Nat,FullW fd S.N a.block a.row a.mask l k/\f.slot=k/\k<l.length/\l.getD k En.zero=f.en:=λi a' ha'=>by
  cases ha:Tb.look S.T.at_ i with
  | none=>rw[(hall i).1 ha]at ha';cases ha'
  | some a=>
   obtain⟨w,f,a2,h1,_,h3,h4,h5,h6,h7,_⟩:=(hall i).2 a ha;rw[h5]at ha';injection ha' with ha';exact⟨a,w,f,rfl,h1,h3,h4,ha'.symm.trans h6,h7⟩
 let W':List (Int×En):=(Dv.mt0 S.N).T.at_.map λx=>(x.1,(Tb.look W x.1).getD En.zero)
 have hW':∀i,Tb.look W' i=Tb.look W i:=λi=>by
  show Tb.look ((Dv.mt0 S.N).T.at_.map λx=>(x.1,(Tb.look W x.1).getD En.zero)) i=_;rw[a9A (λi=>(Tb.look W i).getD En.zero)];cases hx:Tb.look (Dv.mt0 S.N).T.at_ i with
  | some a'=>
   obtain⟨a,w,f,_,h2,_⟩:=hsome i a' hx;rw[h2];rfl
  | none=>
   rw[d6 (by simp)];cases hw:Tb.look W i with
   | none=>rfl
   | some w=>
    obtain⟨_,a,ha,_⟩:=h.hd.each i w hw;obtain⟨_,_,a2,_,_,_,_,h5,_⟩:=(hall i).2 a ha;rw[hx]at h5;cases h5
 have hinv:Inv fd (Dv.mt0 S.N):=by
  refine⟨h.inv.lit,h.inv.dead,h.inv.plan,h.inv.flags,⟨t1,λd hd=>?_⟩,λb hb=>?_, .inl rfl,λb hb hu d hd=>?_,λi a' ha'=>?_⟩
  ·have hd:L.has (Tl.of S.N).dead d=true:=hd;obtain⟨d',rfl,_⟩:=L.has_rng hd;exact I1 λhne=>by rw[hdd d' hne]at hd;cases hd
  ·obtain⟨j,rfl,hj⟩:=hhas b hb;show L.set ((Tl.of S.N).at_ j).bad=true/\∀d:Int,L.has ((Tl.of S.N).at_ j).bad d=true->d=fd;rw[(t3 j hj).1];exact⟨by decide,λd hd=>by rw[L.has_zero]at hd;cases hd⟩
  ·obtain⟨j,rfl,hj⟩:=hhas b hb;have hu:((Tl.of S.N).at_ j).used=false:=hu;rw[(t3 j hj).2.2]at hu;have hmk:=(a0l (t:=(Dv.mt0 S.N).t) (b:=j) (by have:=hO0.t.d;have h3:(Dv.mt0 S.N).N.dies=S.N.dies:=rfl;omega) hb t1 (by show L.set ((Tl.of S.N).at_ j).bad=true;rw[(t3 j hj).1];decide)).2 d;rw[hmk]at hd;simp only[f7,d5,i4]at hd;have hdl:d<S.N.dies:=by have:=hO0.t.d;have h3:(Dv.mt0 S.N).N.dies=S.N.dies:=rfl;omega
   unfold a4o at hu;rw[a0c]at hu;have:=hu d (List.mem_range.2 hdl);have hdf:L.has (Tl.of S.N).dead (d:Nat)=false:=hd.1.2;rw[hdf]at this;show(S.N.blk d ((j:Nat):Int).toNat).cells=[];rw[j4];simpa using this
  ·obtain⟨a,w,f,h1,h2,h3,h4,h5,l,kk,h6,h7,h8,h9⟩:=hsome i a' ha';subst h5;have hst:=h.inv.st i a h1;have hwk:=h.wok i w h2;refine⟨⟨l,by show FullW fd S.N a.block a.row a.mask l f.slot.toNat;rw[h7,j4];exact h6,by show(0:Int)<=f.slot;omega,?_,?_,?_,?_⟩,?_,λe=>?_,⟨hst.seq.1,?_⟩⟩
   ·show f.slot.toNat<l.length;omega
   ·show(l.getD f.slot.toNat En.zero).lpn=i;rw[h7,j4,h9,h4];exact hwk.1
   ·show(l.getD f.slot.toNat En.zero).seq=a.seq;rw[h7,j4,h9,h4]
   ·show(l.getD f.slot.toNat En.zero).role=w.role;rw[h7,j4,h9,h4]
   ·have hblk:=h6.is.blk;show((Tl.of S.N).at_ a.block).used=true;obtain⟨j,hj⟩:=f9 hblk.1;rw[hj,(t3 j (by omega)).2.2];obtain⟨i0,hi0,hne0⟩:=b1Y (fd:=fd) hg.1.1;obtain⟨i0,hne0,hmi0,x,hx,hxi,tt,ht,_⟩:=h6.gdie ⟨i0,hne0,(h.msk i a h1).all i0 hi0 hne0⟩;have hi0:i0<S.N.dies:=by have:=(h6.is.inn x hx).2.1;omega
    unfold a4o;rw[a1A];refine⟨i0,List.mem_range.2 hi0,?_⟩;rw[hdd i0 hne0];have hne:(S.N.blk i0 j).cells≠[]:=λe=>by
     unfold Nand.pageAt at ht;rw[hxi,hj,j4,j4,e]at ht;cases ht
    rw[i6 hne];rfl
   ·have hblk:=h6.is.blk;have e:a.block= -1:=e;omega
   ·have hnx:=V.nextOf_ge _ _ rfl f h3;have hq:f.en.seq=a.seq:=by rw[h4]
    show a.seq<max (V.nextOf (V.all S.N)) 1;omega
 have hhd:Hd (Dv.mt0 S.N) W':=by
  refine⟨?_,λi e he=>?_⟩
  ·show(Dv.mt0 S.N).T.at_.map (·.1)=((Dv.mt0 S.N).T.at_.map λx=>(x.1,(Tb.look W x.1).getD En.zero)).map (·.1);rw[b0d];rfl
  ·rw[hW']at he;obtain⟨h1,a,h2,h3⟩:=h.hd.each i e he;obtain⟨w,f,a',g1,g2,g3,g4,g5,g6,⟨l2,kk2,q1,q2,q3,q4⟩,_⟩:=(hall i).2 a h2;rw[he]at g1;injection g1 with g1;subst g1;subst g6;refine⟨h1,_,g5,?_⟩;show R.read S.N a.block a.row f.slot a.mask=({e with seq:=a.seq},0);rw[q2,q1.read h.inv.lit.off h.inv.dead q3,q4,g4]
 refine⟨W',hW',?_,⟨hinv,hhd,λi e he=>h.wok i e (by rw[<- hW'];exact he),λi a' ha'=>?_,λb r hb hr=>(h.dsc b r hb hr).mono (λe ⟨w,a,x1,x2,x3⟩=>?_) λe ⟨a,x1,x2⟩=>?_⟩,λb hb=>?_,λi a' ha'=>?_⟩
 ·have h1:=a2y (K:=(Dv.mt0 S.N).T.at_.map (·.1)) (M:=W.map (·.1)) hO0.T.keys λi hi=>by
   obtain⟨x,hx,rfl⟩:=List.mem_map.1 hi;obtain⟨a,w,f,g1,_⟩:=hsome x.1 x.2 (a5e hO0.T hx);rw[<- h.hd.keys];exact List.mem_map.2 ⟨_,Tb.look_mem g1,rfl⟩
  simpa[W']using h1
 ·obtain⟨a,w,f,h1,_,_,_,h5,_⟩:=hsome i a' ha';rw[h5];exact h.msk i a h1
 ·obtain⟨w',f,a',g1,g2,g3,g4,g5,g6,_⟩:=(hall _).2 a x2;rw[x1]at g1;injection g1 with g1;subst g1;subst g6;exact⟨w,_,by rw[hW'];exact x1,g5,x3⟩
 ·obtain⟨w',f,a',g1,g2,g3,g4,g5,g6,_⟩:=(hall _).2 a x1;subst g6;exact⟨_,g5,x2⟩
 ·obtain⟨j,rfl,hj⟩:=hhas b hb;exact(t3 j hj).2.1
 ·obtain⟨a,w,f,h1,_,_,_,h5,_⟩:=hsome i a' ha';exact⟨a,h1,by rw[h5]⟩
end GI
def cur (W:List (Int×En)) (L:List En) (i:Int):List UInt8:=match L.find? (λx=>x.lpn==i)with
 | some e=>e.data
 | none=>match Tb.look W i with
  | some e=>e.data
  | none=>zeros16
structure FI (fd:Int) (W:List (Int×En)) (lg:Nat) (F:Fv):Prop where
 inv:Inv fd F.S
 hd:Hd F.S W
 wok:WOk W
 wr:∀i e,Tb.look W i=some e->e.role≠4
 log:F.S.T.logical=(lg:Int)
 lgn:F.lg=(lg:Int)
 lg2:lg<=200
 des:∀e∈F.L,FitR e/\e.role≠4/\e.lpn<(lg:Int)
 nd:(F.L.map (·.lpn)).Nodup
 off:F.off=false
theorem find_none {L:List En} {i:Int}:L.find? (λx=>x.lpn==i)=none↔i∉L.map (·.lpn):=by
 rw[List.find?_eq_none];constructor
 ·intro h hm;obtain⟨x,hx,e⟩:=List.mem_map.1 hm;exact h x hx (by simp[e])
 ·intro h x hx hb;exact h (List.mem_map.2 ⟨x,hx,by simpa using hb⟩)
theorem a9O {L:List En} (hnd:(L.map (·.lpn)).Nodup) {e:En} (he:e∈L):L.find? (λx=>x.lpn==e.lpn)=some e:=by
 induction L with
 | nil=>cases he
 | cons x L ih=>
  simp only[n4,List.nodup_cons]at hnd;rw[List.find?_cons];rcases List.mem_cons.1 he with rfl | he
  ·simp
  ·have:(x.lpn==e.lpn)=false:=by
    rw[l8];intro e2;exact hnd.1 (by rw[e2];exact L6 he)
   rw[this];exact ih hnd.2 he
theorem a9T {L:List En} (hnd:(L.map (·.lpn)).Nodup) (n:Nat):a0t L (L.take n)=L.drop n:=by
 unfold a0t;have hsp:L=L.take n++L.drop n:=(C9 n L).symm;have hnd2:=hnd;rw[hsp,t7,M4]at hnd2;obtain⟨_,_,hdis⟩:=hnd2
 conv=>lhs;arg 2;rw[hsp]
 rw[R7];have h1:(L.take n).filter (λx=>!((L.take n).any λe=>e.lpn==x.lpn&&e.seq==x.seq))=[]:=by
  rw[List.filter_eq_nil_iff];intro x hx;have:((L.take n).any λe=>e.lpn==x.lpn&&e.seq==x.seq)=true:=List.any_eq_true.2 ⟨x,hx,by simp⟩;rw[this];simp
 have h2:(L.drop n).filter (λx=>!((L.take n).any λe=>e.lpn==x.lpn&&e.seq==x.seq))=L.drop n:=by
  rw[W2];intro x hx;have:((L.take n).any λe=>e.lpn==x.lpn&&e.seq==x.seq)=false:=by
   rw[<- Bool.not_eq_true,a1A];rintro⟨e,he,hb⟩;simp only[f7,A4]at hb;exact hdis _ (L6 he) _ (L6 hx) hb.1
  rw[this];rfl
 rw[h1,h2];rfl
theorem b8i {W:List (Int×En)} {L:List En} (hnd:(L.map (·.lpn)).Nodup) (n:Nat) (hn:n<=L.length) (i:Int):cur (a0J W L n) (L.drop n) i=cur W L i:=by
 have hdisj:∀a b,a<b->b<n->(L.getD a En.zero).lpn≠(L.getD b En.zero).lpn:=λa b hab hb e=>by
  have g1:a<L.length:=by omega
  have g2:b<L.length:=by omega
  have h3:(L.map (·.lpn))[a]? =(L.map (·.lpn))[b]?:=by
   rw[i9,i9,c9 g1,c9 g2];rw[d7,d7,c9 g1,c9 g2]at e;exact congrArg some e
  have:=(V4 (by rw[l7];exact g1) hnd).1 h3;omega
 obtain⟨w1,w2⟩:=a0w (W:=W) (l:=L) n hdisj;have hsp:L=L.take n++L.drop n:=(C9 n L).symm;have hnd2:=hnd;rw[hsp,t7,M4]at hnd2;obtain⟨hn1,hn2,hdis⟩:=hnd2
 by_cases hi:i∈(L.take n).map (·.lpn)
 ·obtain⟨e,he,rfl⟩:=List.mem_map.1 hi;have hf:=a9O hnd (I8 he);have hnone:(L.drop n).find? (λx=>x.lpn==e.lpn)=none:=find_none.2 λhm=>hdis _ hi _ hm rfl;obtain⟨j,hj,hje⟩:=List.mem_iff_getElem.1 he;rw[j9]at hj;have hge:L.getD j En.zero=e:=by
   rw[d7,c9 (by omega),j3,<- hje,a0a]
  have hl:=w1 j (by omega);rw[hge]at hl;unfold cur;rw[hnone,hf];dsimp only;rw[hl]
 ·have h1:(L.take n).find? (λx=>x.lpn==i)=none:=find_none.2 hi;have h2:L.find? (λx=>x.lpn==i)=(L.drop n).find? (λx=>x.lpn==i):=by
   conv=>lhs;rw[hsp]
   rw[List.find?_append,h1];rfl
  have h3:Tb.look (a0J W L n) i=Tb.look W i:=w2 i λj hj e=>hi (List.mem_map.2 ⟨L.getD j En.zero,by
   rw[d7,c9 (by omega),j3];exact List.mem_iff_getElem.2 ⟨j,by rw[j9];omega,a0a ..⟩,e⟩)
  unfold cur;rw[h2,h3]
theorem b3t {W:List (Int×En)} {L:List En} (hW:WOk W) (hr:∀i e,Tb.look W i=some e->e.role≠4) (hL:∀e∈L,FitR e/\e.role≠4):∀n,n<=L.length->WOk (a0J W L n)/\∀i e,Tb.look (a0J W L n) i=some e->e.role≠4
 | 0,_=>⟨hW,hr⟩
 | n+1,hn=>by
  obtain⟨h1,h2⟩:=b3t hW hr hL n (by omega);have hm:=hL _ (U9 (show n<L.length by omega));rw[a0U];refine⟨h1.put hm.1,λi e he=>?_⟩;rw[Tb.look_put1]at he;split at he
  ·injection he with he;rw[<- he];exact hm.2
  ·exact h2 i e he
namespace FI
variable {fd : Int} {W : List (Int × En)} {lg k m : Nat} {F : Fv}
theorem ask (h:FI fd W lg F):F.ask=F:=by
 unfold Fv.ask;rw[h.inv.lit.off,h.off];have:=h.off;cases F;dsimp only at this;rw[this];rfl
theorem get (h:FI fd W lg F) (i:Int):F.get i=(cur W F.L i,0):=by
 unfold Fv.get cur a2J;cases hf:F.L.find? (λx=>x.lpn==i)with
 | some e=>rfl
 | none=>
  dsimp only;rw[d6 l9];cases hw:Tb.look W i with
  | none=>rw[h.hd.none hw]
  | some e=>
   obtain⟨h1,a,ha,hr⟩:=h.hd.each i e hw;obtain⟨y,hy,_,_,hyr⟩:=h.inv.read ha;have hwe:=h.wok i e hw;rw[hr]at hy;have her:e.role=a.role:=by injection hy with hy;rw[<- hyr,<- hy]
   have h4:=h.wr i e hw;rw[ha];dsimp only;rcases hwe.2.role with r | ⟨r | r,hz⟩
   ·rw[d6 (by omega),d6 (by omega),hr];dsimp only;rw[d6];rintro(x | x | x)
    ·exact x rfl
    ·exact x hwe.1
    ·exact x rfl
   ·rw[d8 (by omega),hz]
   ·exact absurd r h4
theorem read (h:FI fd W lg F) (i:Int):F.read i=if i<0\/i>=(lg:Int)then(F,zeros16,3)else(F,cur W F.L i,0):=by
 unfold Fv.read;rw[h.ask,h.off,d6 l9,h.lgn,h.get]
end FI
theorem b2a {L:List En} {i j:Int} (h:i≠j):(L.filter λx=>!(x.lpn==j)).find? (λx=>x.lpn==i)=L.find? (λx=>x.lpn==i):=by
 induction L with
 | nil=>rfl
 | cons x L ih=>
  rw[W9]
  by_cases e:x.lpn=j
  ·have h1:(!(x.lpn==j))=false:=by simp[e]
   have h2:(x.lpn==i)=false:=by rw[l8];omega
   rw[h1,d6 l9,ih,List.find?_cons,h2]
  ·have h1:(!(x.lpn==j))=true:=by simp[e]
   rw[h1,d8 rfl,List.find?_cons,List.find?_cons,ih]
theorem b9Z (W:List (Int×En)) (L:List En) (e:En) (i:Int):cur W (a0B L e) i=if i=e.lpn then e.data else cur W L i:=by
 unfold cur a0B;rw[List.find?_append]
 by_cases h:i=e.lpn
 ·subst h;have h1:(L.filter λx=>!(x.lpn==e.lpn)).find? (λx=>x.lpn==e.lpn)=none:=by
   rw[List.find?_eq_none];intro x hx hb;have:=(List.mem_filter.1 hx).2;rw[hb]at this;cases this
  rw[h1,d8 rfl];simp
 ·rw[b2a h,d6 h];have h2:[e].find? (λx=>x.lpn==i)=none:=by
   rw[List.find?_eq_none];intro x hx hb;simp at hx;subst hx;exact h (a4m hb).symm
  rw[h2,Option.or_none]
namespace FI
variable {fd : Int} {W : List (Int × En)} {lg k m : Nat} {F : Fv}
theorem put (h:FI fd W lg F) {e:En} (he:FitR e/\e.role≠4/\e.lpn<(lg:Int)):FI fd W lg (F.put e)/\∀i,cur W (F.put e).L i=if i=e.lpn then e.data else cur W F.L i:=by
 refine⟨⟨h.inv,h.hd,h.wok,h.wr,h.log,h.lgn,h.lg2,λx hx=>?_,?_,h.off⟩,λi=>b9Z W F.L {e with seq:=F.nx} i⟩
 ·have hx:x∈(F.L.filter λy:En=>!(y.lpn==e.lpn))++[({e with seq:=F.nx}:En)]:=hx;rcases List.mem_append.1 hx with hx | hx
  ·exact h.des x (List.mem_filter.1 hx).1
  ·simp at hx;rw[hx];exact⟨⟨he.1.lpn,he.1.role,he.1.len⟩,he.2.1,he.2.2⟩
 ·show(((F.L.filter λy:En=>!(y.lpn==e.lpn))++[({e with seq:=F.nx}:En)]).map (·.lpn)).Nodup;rw[t7,M4];refine⟨List.Nodup.sublist ((List.filter_sublist (p:=λx:En=>!(x.lpn==e.lpn)) (l:=F.L)).map (·.lpn)) h.nd,by simp,λa ha b hb hab=>?_⟩;obtain⟨x,hx,rfl⟩:=List.mem_map.1 ha;simp at hb;have:=(List.mem_filter.1 hx).2;rw[hab,hb]at this;simp at this
def costW:Nat:=Dv.costM+8*Dv.fuel
end FI
theorem c0d (D B P:Nat):V.all (Nand.new D B P)=[]:=by
 unfold V.all;rw[List.flatMap_eq_nil_iff];intro b _;rw[List.flatMap_eq_nil_iff];intro r _;refine b5D λd=>?_;have:=a8c (N:=Nand.new D B P) (d:=(d:Nat)) (b:=(b:Nat)) (r:=(r:Nat)) (j7 _);omega
theorem b3U (N:Nand) (n:Int):∀k,V.goS N [] n k=⟨Tb.new n,[],[],[]⟩
 | 0=>rfl
 | k+1=>by
  rw[V.goS_succ,b3U N n k];unfold V.step;rw[d6];show¬(V.standOf (V.of [] k)).2=true;rw[show V.of [] (k:Int)=[]from rfl,V.standOf_nil];exact l9
theorem b6s (D B P:Nat) (n:Int):V.scan (Nand.new D B P) n=⟨Tb.new n,[],0,[],1,0⟩:=by
 unfold V.scan V.scanOf;rw[c0d,b3U];have h1:J9 (a0K [])=[]:=a9s;dsimp only;rw[h1];rfl
theorem b6r {t:Tl} (hl:t.l.length=t.b) (k:Int):t.set k (t.at_ k)=t:=by
 unfold Tl.set;split
 ·rename_i h;have hk:=Tl.get_at hl h;have:t.l.set k.toNat (t.at_ k)=t.l:=by
   apply x9;intro i;rw[z8];split
   ·rename_i e;subst e;rw[hk];split
    ·rfl
    ·rename_i h2;rw[j5 (by omega)]at hk;cases hk
   ·rfl
  rw[this]
 ·rfl
theorem b3l (D B P:Nat) (b:Int):(Tl.new D B P).at_ b=Sb.zero:=by
 unfold Tl.new Tl.at_;dsimp only;rw[d7,E9];split<;>rfl
theorem b9p (D B P:Nat) (b d:Nat):Tl.ofD (Nand.new D B P) b (Tl.new D B P) d=Tl.new D B P:=by
 have hw:(Nand.new D B P).wornAt d b=0:=by unfold Nand.wornAt;split<;>rfl
 have hn:(Nand.new D B P).next d b=0:=by unfold Nand.next;split<;>rfl
 have h1:(Tl.new D B P).wore b 0=Tl.new D B P:=by
  have h2:=b6r (t:=Tl.new D B P) (by show(List.replicate B Sb.zero).length=B;rw[X8]) (b:Int);unfold Tl.wore;rw[b3l]at h2 ⊢;exact h2
 unfold Tl.ofD;dsimp only;rw[hw,hn,h1,d6];simp
theorem c0T (D B P:Nat):Tl.of (Nand.new D B P)=Tl.new D B P:=by
 have hd:Dv.seeDead (Nand.new D B P) (Tl.new D B P)=Tl.new D B P:=b2C λi=>by
  show(List.replicate D false).getD i false=false;rw[d7,E9];split<;>rfl
 have h1:∀(b:Nat) (q:List Nat),q.foldl (Tl.ofD (Nand.new D B P) b) (Tl.new D B P)=Tl.new D B P:=by
  intro b q
  induction q with
  | nil=>rfl
  | cons d q ih=>rw[A6,b9p,ih]
 have h2:∀q:List Nat,q.foldl (Tl.ofB (Nand.new D B P)) (Tl.new D B P)=Tl.new D B P:=by
  intro q
  induction q with
  | nil=>rfl
  | cons b q ih=>
   rw[A6];have:Tl.ofB (Nand.new D B P) (Tl.new D B P) b=Tl.new D B P:=h1 b _;rw[this,ih]
 unfold Tl.of;rw[show(Nand.new D B P).dies=D from rfl,show(Nand.new D B P).blocks=B from rfl,show(Nand.new D B P).pages=P from rfl,hd,h2]
theorem b6x {D B P k m:Nat} {lg:Int} (hO:(Dv.new D B P lg).Ok k m):(Dv.new D B P lg).clear=(Dv.new D B P lg,0)/\(Dv.new D B P lg).room=(Dv.new D B P lg,0):=by
 have hg:=hO.gd.ok.bd16;have hg:(3<=D/\D<=6)/\(8<=B/\B<=16)/\(2<=P/\P<=8):=hg;have hsp:o0 (C3 (Dv.new D B P lg).t (Dv.new D B P lg).T) (Dv.new D B P lg).op (Dv.new D B P lg).t.b=[]:=a4x _ λx hx=>by
  have hx:x<B:=hx;unfold C3 Tl.blank;rw[show(Dv.new D B P lg).t=Tl.new D B P from rfl,b3l,Tl.has_iff.2 (show 0<=(x:Int)/\(x:Int)<(Tl.new D B P).b by show 0<=(x:Int)/\(x:Int)<(B:Int);omega)];simp[Sb.zero]
 have hc:(Dv.new D B P lg).clear=(Dv.new D B P lg,0):=by
  unfold Dv.clear Dv.clearX;rw[hsp];rfl
 have hfr:((Dv.new D B P lg).free:Int)>4:=by
  have h1:=(Inv.new (-1) D B P lg).free_len (k:=k) (m:=m) hO;have h2:(Dv.new D B P lg).t.blanks=B:=by
   show(List.replicate B Sb.zero).countP _=B;rw[List.countP_replicate];rfl
  have h1:(Dv.new D B P lg).free=(Dv.new D B P lg).t.blanks:=h1;omega
 refine⟨hc,?_⟩;unfold Dv.room;rw[hc,d6 (by simp)];obtain⟨c,hc2⟩:∃c,(Dv.new D B P lg).t.b=c+1:=⟨(Dv.new D B P lg).t.b-1,by show B=B-1+1;omega⟩;rw[hc2];show Dv.roomGo (c+1) (Dv.new D B P lg)=_;unfold Dv.roomGo;rw[d8 hfr]
theorem b4P {D B P k m:Nat} (hO:(Dv.new D B P (lgN D B P)).Ok k m):G9 (Nand.new D B P)=(Dv.new D B P (lgN D B P),0):=by
 obtain⟨c1,c2⟩:=b6x hO;unfold G9;rw[show(Nand.new D B P).dies=D from rfl,show(Nand.new D B P).blocks=B from rfl,show(Nand.new D B P).pages=P from rfl,b6s,c0T];have e:(⟨Nand.new D B P,Tl.new D B P,Tb.new (lgN D B P),-1,0,0,max 1 1⟩:Dv)=Dv.new D B P (lgN D B P):=rfl;dsimp only;rw[e];have h1:(Dv.new D B P (lgN D B P)).holds [] true=Dv.new D B P (lgN D B P):=rfl;have h2:(Dv.new D B P (lgN D B P)).holds [] false=Dv.new D B P (lgN D B P):=rfl;have h3:(Dv.new D B P (lgN D B P)).torn []=(Dv.new D B P (lgN D B P),0):=rfl;rw[h1,List.take_nil,List.drop_nil,h3];dsimp only;rw[d6 (by simp),h2,c1];dsimp only;rw[d6 (by simp),h3];dsimp only;rw[d6 (by simp)];exact c2
theorem FI.new (fd:Int) {D B P:Nat} (hD:3<=D/\D<=6) (hB:8<=B/\B<=16) (hP:2<=P/\P<=8) (hlg:lgN D B P<=200):FI fd [] (lgN D B P) (Fv.of (Dv.new D B P (lgN D B P))):=
 ⟨Inv.new fd D B P _,⟨rfl,λ_ _ he=>(by cases he)⟩,λ_ _ he=>(by cases he),λ_ _ he=>(by cases he),(by
  show min (max ((lgN D B P:Nat):Int) 0) 65536=_;omega),rfl,hlg,λ_ he=>(by cases he),a5E,rfl⟩
theorem GI.new (fd:Int) (D B P:Nat) (lg:Int):GI fd [] (Dv.new D B P lg):=
 ⟨Inv.new _ _ _ _ _,⟨rfl,λi e he=>(by cases he)⟩,λi e he=>(by cases he),λi a ha=>(by cases ha),λb r _ _=> .none λd c hc=>(by
  have:(Dv.new D B P lg).N.pageAt d b r=none:=by show(Nand.new D B P).pageAt d b r=none;unfold Nand.pageAt Nand.new;simp
  rw[this]at hc;cases hc)⟩
theorem V.nextOf_le {c:Int} (hc:1<=c):∀(n:Nat) (l:List Fnd),l.length=n->(∀f∈l,f.en.seq+1<=c)->V.nextOf l<=c
 | 0,l,hl,_=>by rw[n5 hl];exact hc
 | n+1,l,hl,h=>by
  obtain⟨l',x,rfl⟩:∃l' x,l=l'++[x]:=⟨l.dropLast,l.getLast (λe=>by rw[e]at hl;cases hl),(a0Q _).symm⟩;have hl':l'.length=n:=by simpa using hl
  rw[V.nextOf_snoc];have h1:=V.nextOf_le hc n l' hl' λf hf=>h f (List.mem_append_left _ hf);have h2:=h x (by simp);omega
theorem a1E {t:Tl} (hl:t.l.length=t.b):t.blanks=(List.range t.b).countP λi:Nat=>!(t.at_ (i:Nat)).used:=by
 unfold Tl.blanks Tl.at_;rw[Inv.countP_range_get _ Sb.zero,hl];simp
namespace GI
variable {fd : Int} {W : List (Int × En)} {S : Dv} {k m : Nat}
theorem next_le (h:GI fd W S) (hO:S.Ok k m):(Dv.mt0 S.N).next<=max S.next 1:=by
 have hg:=hO.gd.ok.bd16;have h1:=V.nextOf_le (c:=max S.next 1) (by omega) _ _ rfl λf hf=>by
  obtain⟨b,r,hb,hr,hfr⟩:=V.mem_all.1 hf;rcases(h.dsc b r hb hr).fnd h.inv.lit.off hg.1 hfr with⟨a,ha,hlt⟩ | ⟨⟨w,a,_,ha,hlt⟩,_⟩
  ·have:=(h.inv.st _ a ha).seq;omega
  ·have:=(h.inv.st _ a ha).seq;omega
 show max (V.nextOf (V.all S.N)) 1<=_;omega
end GI
theorem Full.par_good {N:Nand} {b r m:Int} {l:List En} (h:Full (-1) N b r m l) (hoff:N.off=false) (hdead:∀i:Nat,N.dead.getD i false=false):(M.look N (G.parity m b r) b r).2=1:=by
 have hx:=j8 (X0 b r m l);obtain⟨n1,n2,_⟩:=h.is.inn _ hx;obtain⟨c,hc,hcl,hcE⟩:=h.good _ hx (by omega);have hrf:N.refuses (G.parity m b r) b r=0:=by
  unfold Nand.refuses;rw[hoff,d6 (by decide),Nand.geoIn_of ⟨n1,n2⟩ h.is.blk h.is.row,d6 (by decide),hdead];rfl
 rw[a3H (h.is.sh _ hx).1 hrf hc (h.inn _ hx c hc) hcl hcE]
def Nand.cyc (N:Nand):Nand:=(N.setCut (-1) 0).onN
structure Fl where
 at_:Int
 kind:Int
 x:Int
 y:Int
 z:Int
 n:Int
 xx:Int
deriving DecidableEq
def dF:Fl:=⟨0,0,0,0,0,0,0⟩
def flC (f:Fl):List Value:=[iI f.at_,iI f.kind,iI f.x,iI f.y,iI f.z,iI f.n,iI f.xx]
def flV (f:Fl):Value:= .agg #[iI f.at_,iI f.kind,iI f.x,iI f.y,iI f.z,iI f.n,iI f.xx]
def A8 (l:List Fl):List Value:=l.flatMap flC
theorem W4 (l:List Fl):(A8 l).length=l.length*7:=by
 induction l with
 | nil=>rfl
 | cons x l ih=>simp only[A8,u0,f8,l5]at ih ⊢;rw[ih,show(flC x).length=7 from rfl];omega
theorem Z0:∀(l:List Fl) (r:List Value) (k:Nat) (x:Fl),l[k]? =some x->((A8 l++r).drop (k*7)).take 7=flC x
 | [],_,_,_,h=>by simp at h
 | y::l,r,0,x,h=>by simp at h;subst h;simp[A8,flC]
 | y::l,r,k+1,x,h=>by
  have:=Z0 l r k x (by simpa using h);rw[show(k+1)*7=7+k*7 from by omega,<- C0,show(A8 (y::l)++r).drop 7=A8 l++r from rfl];exact this
theorem a1q:∀(l:List Fl) (r:List Value) (k:Nat) (x:Fl),k<l.length->(A8 l++r).take (k*7)++flC x++(A8 l++r).drop (k*7+7)=A8 (l.set k x)++r
 | [],_,_,_,h=>by simp at h
 | y::l,r,0,x,h=>by rw[P8,List.take_zero];rfl
 | y::l,r,k+1,x,h=>by
  have:=a1q l r k x (by simpa using h);rw[R6,show A8 (y::l)++r=flC y++(A8 l++r)from by simp[A8],show(k+1)*7=(flC y).length+k*7 from by show _=7+k*7;omega,T3,show(flC y).length+k*7+7=(flC y).length+(k*7+7)from by omega,List.drop_length_add_append,m7,m7,<- m7 (List.take _ _),this];simp[A8]
def a8K (l:List Fl) (j:Nat):List Fl:=(l.set j (l.getD (j-1) dF)).set (j-1) (l.getD j dF)
def a7y (f:Fl->Fl->Int):Nat->List Fl->List Fl
 | 0,l=>l
 | j+1,l=>if f (l.getD (j+1) dF) (l.getD j dF)<0 then a7y f j (a8K l (j+1))else l
def a0d (f:Fl->Fl->Int) (l:List Fl):Nat->List Fl
 | 0=>l
 | k+1=>a7y f (k+1) (a0d f l k)
def V3 (f:Fl->Fl->Int) (l:List Fl):List Fl:=a0d f l (l.length-1)
theorem a4U (l:List Fl) (j:Nat):(a8K l j).length=l.length:=by simp[a8K]
theorem b4v (l:List Fl) (j:Nat) (h:j+1<l.length):(a8K l (j+1)).Perm l:=by
 induction l generalizing j with
 | nil=>simp at h
 | cons x l ih=>
  cases j with
  | zero=>
   cases l with
   | nil=>simp at h
   | cons y l=>simp only[a8K,R6,a0H,P6,J6,List.getD_cons_zero,a4J];exact List.Perm.swap _ _ _
  | succ j=>
   have:=ih j (by simpa using h);simp only[a8K,P6,R6,a4J]at this ⊢;exact this.cons x
theorem a4v (f:Fl->Fl->Int):∀(j:Nat) (l:List Fl),j<l.length->(a7y f j l).Perm l
 | 0,l,_=>a0p _
 | j+1,l,h=>by
  unfold a7y;split
  ·exact(a4v f j _ (by rw[a4U];omega)).trans (b4v l j h)
  ·exact a0p _
theorem a5g (f:Fl->Fl->Int) (l:List Fl):∀k,k<l.length->(a0d f l k).Perm l/\(a0d f l k).length=l.length
 | 0,_=>⟨a0p _,rfl⟩
 | k+1,h=>by
  obtain⟨h1,h2⟩:=a5g f l k (by omega);exact⟨(a4v f (k+1) _ (by omega)).trans h1,by rw[a0d,(a4v f (k+1) _ (by omega)).length_eq,h2]⟩
theorem a6y (f:Fl->Fl->Int) (l:List Fl):(V3 f l).Perm l:=by
 cases l with
 | nil=>exact a0p _
 | cons x l=>exact(a5g f (x::l) _ (by simp)).1
theorem a9h (f:Fl->Fl->Int):∀(j:Nat) (l:List Fl),(a7y f j l).length=l.length
  | 0,l=>rfl
  | j + 1, l => by unfold a7y; split
                   · rw[a9h f j,a4U]
                   · rfl
theorem a6z (f:Fl->Fl->Int) (l:List Fl):∀k,(a0d f l k).length=l.length
 | 0=>rfl
 | k+1=>by rw[a0d,a9h,a6z f l k]
theorem b9K (c:Nat) (f:Fl->Fl->Int) (hcal:K0 Tryz.prog c=true) (hf:∀x y,Fn Tryz.prog c [flV x,flV y] [] (Ps (iI (f x y)) []))
  (g n cap:Nat) (l:List Fl) (hl:l.length=n) (hn:n<=4611686018427387904) (r:List Value):FP 231 [.slice (some ⟨g,0,none⟩) n cap,iI 0,iI n,fnV c] [.pt g 41 (A8 l++r)]
  (Ps (.tuple #[]) [.pt g 41 (A8 (V3 f l)++r)]):=by
 refine FE [2,0,0,0] Tryz.func231 λX F hX=>?_;refine J.q λ_=>?_;refine J.l (α:=Nat) (λi=>1<=i/\i<=max 1 n) (λi=>[si 8 i,⟨0, .slice (some ⟨g,0,none⟩) n cap,2, .tt⟩,si 1 0,si 2 n,⟨3,fnV c,0, .tt⟩]) [1] (λi=>[.pt g 41 (A8 (a0d f l (i-1))++r)]) (λi=>n-i) (1) (⟨by omega,by omega⟩) λi hI=>?_;refine J.qd (λ_ h1=>?_) λ_ h1=>?_
 ·simp only[d5,i5]at h1;refine J.q λ_=>?_;refine J.l (α:=(Nat×List Fl)) (λy=>y.1<=i/\y.2.length=n/\a7y f y.1 y.2=a0d f l i) (λy=>[si 9 y.1,si 8 i,⟨0, .slice (some ⟨g,0,none⟩) n cap,2, .tt⟩,si 1 0,si 2 n,⟨3,fnV c,0, .tt⟩]) [1] (λy=>[.pt g 41 (A8 y.2++r)]) (λy=>y.1) ((i,a0d f l (i-1))) (⟨i7 _,by rw[a6z,hl],by obtain⟨k,rfl⟩:∃k,i=k+1:=⟨i-1,by omega⟩;rfl⟩) λy hI=>?_;obtain⟨j,m⟩:=y;dsimp only at hI ⊢;have hget:∀e,e<n->m[e]? =some (m.getD e dF):=λe he=>by rw[d7,c9 (by omega),j3]
  rcases P5 j with h2 | h2
  ·subst h2;refine J.pn 4 (.of [0,4,8,12,16,20,24,28,33,36,40,44,48,53,58,60,64]) [] [1] λ_ _=>?_;rw[show decide (((0:Nat):Int)>0)=false from rfl];refine J.q λ_=>?_;refine J.vT (flV dF) rfl rfl (λhg a w he hC=>by simp[G.on]at hg) ?_;refine J.q λ_=>?_;refine J.vT (flV dF) rfl rfl (λhg a w he hC=>by simp[G.on]at hg) ?_;refine J.q λ_=>?_;refine J.gcase hX rfl rfl rfl ⟨rfl,trivial⟩ (λh=>by cases h) (λ_=>?_);refine J.vT (.bool false) rfl rfl (λhg a w he hC=>by simp[G.on]at hg) ?_;refine J.qF λ_=>?_;have hm:m=a0d f l (i+1-1):=hI.2.2;rw[hm];refine J.q λ_=>?_;refine J.n (i+1) (⟨by omega,by omega⟩) (by omega) [0,1]
  ·obtain⟨j,rfl⟩:∃k,j=k+1:=⟨j-1,by omega⟩;refine J.pn 4 (.of [0,4,8,12,16,20,24,28,33,36,40,44,48,53,58,60,64]) [] [1] λ_ _=>?_;rw[show decide (((j+1:Nat):Int)>0)=true from i6 (by omega)];refine J.q λ_=>?_;refine J.vT (flV (m.getD (j+1) dF)) rfl rfl (λhg a w he hC=>?_) ?_
   ·exact H9 tk rfl rfl he hg rfl rfl (hC rfl _ (B6 (i:=1) rfl)) (by rw[show 0+((j+1:Nat):Int).toNat*7=(j+1)*7 from by omega];exact Z0 m r _ _ (hget _ (by omega))) rfl
   refine J.q λ_=>?_;refine J.vT (flV (m.getD j dF)) rfl rfl (λhg a w he hC=>?_) ?_
   ·exact H9 tk rfl rfl he hg rfl rfl (hC rfl _ (B6 (i:=1) rfl)) (by rw[show 0+(((j+1:Nat):Int)-1).toNat*7=j*7 from by omega];exact Z0 m r _ _ (hget _ (by omega))) rfl
   refine J.q λ_=>?_;refine J.call hX hcal (hf (m.getD (j+1) dF) (m.getD j dF)) [] 0 rfl rfl rfl rfl (by(repeat' (first | exact Conj.nil | refine Conj.cons ?_ ?_ | omega | exact hq0 | (simpa using hq0) | (exactλh=>h) | exact rfl | (intro hq;have hq0:=hq;try simp only[f7,j6,d5,i4,c8]at hq) | (simp;done) | (simp;omega) | decide))) rfl rfl (λ_=>rfl) ?_;refine cpq ⟨_,rfl,⟨rfl,trivial⟩,?_⟩;refine J.qd (λ_ h3=>?_) λ_ h3=>?_
   ·simp only[q9,d5]at h3;refine J.pq (.take true 0 (.take true 1 (.take true 2 (.take true 3 (.take true 4 (.take true 5 (.take true 6 (.take true 7 (.take true 8 (.take true 10 (.take true 11 (.take true 12 (.alt false 9 ((.of [54,56,62,64,71])) (.alt false 13 ((.of [38,56,62,64,71])) .non)))))))))))))) [16,17] [] λ_ _=>?_;refine J.alts ?_ ?_
    ·refine J.v (flV (m.getD j dF)) rfl rfl (λhg a w he hs=>?_) ?_
     ·exact H9 tk rfl rfl he hg rfl rfl (hs.get (i:=1) rfl) (by rw[show 0+(((j+1:Nat):Int)-1).toNat*7=j*7 from by omega];exact Z0 m r _ _ (hget _ (by omega))) rfl
     refine J.q λ_=>?_;refine J.v (flV (m.getD (j+1) dF)) rfl rfl (λhg a w he hs=>?_) ?_
     ·exact H9 tk rfl rfl he hg rfl rfl (hs.get (i:=1) rfl) (by rw[show 0+((j+1:Nat):Int).toNat*7=(j+1)*7 from by omega];exact Z0 m r _ _ (hget _ (by omega))) rfl
     refine J.q λ_=>?_;refine J.storeN hX tk 1 rfl rfl rfl rfl rfl rfl rfl rfl rfl rfl rfl rfl rfl ?_ (A8 (m.set (j+1) (m.getD j dF))++r) ?_ rfl (λ_=>rfl) ⟨trivial,?_⟩
     ·rw[f8,W4];show 0+((j+1:Nat):Int).toNat*7+7<=_;omega
     ·rw[show 0+((j+1:Nat):Int).toNat*7=(j+1)*7 from by omega];exact a1q m r (j+1) _ (by omega)
     refine J.q λ_=>?_;refine J.storeN hX tk 1 rfl rfl rfl rfl rfl rfl rfl rfl rfl rfl rfl rfl rfl ?_ (A8 (a8K m (j+1))++r) ?_ rfl (λ_=>rfl) ⟨trivial,?_⟩
     ·rw[f8,W4,A7];show 0+(((j+1:Nat):Int)-1).toNat*7+7<=_;omega
     ·rw[show 0+(((j+1:Nat):Int)-1).toNat*7=j*7 from by omega];exact a1q _ r j _ (by rw[A7];omega)
     refine J.q λ_=>?_;rw[show((j+1:Nat):Int)-1=(j:Int)from by omega];refine J.q λ_=>?_;refine J.n ((j,a8K m (j+1))) (⟨by dsimp only;omega,by rw[a4U];exact hI.2.1,by rw[<- hI.2.2];exact(d8 h3).symm⟩) (by dsimp only;omega) [0,1]
    ·refine J.v (flV (m.getD (j+1) dF)) rfl rfl (λhg a w he hs=>?_) ?_
     ·exact H9 tk rfl rfl he hg rfl rfl (hs.get (i:=1) rfl) (by rw[show 0+((j+1:Nat):Int).toNat*7=(j+1)*7 from by omega];exact Z0 m r _ _ (hget _ (by omega))) rfl
     refine J.q λ_=>?_;refine J.v (flV (m.getD j dF)) rfl rfl (λhg a w he hs=>?_) ?_
     ·exact H9 tk rfl rfl he hg rfl rfl (hs.get (i:=1) rfl) (by rw[show 0+(((j+1:Nat):Int)-1).toNat*7=j*7 from by omega];exact Z0 m r _ _ (hget _ (by omega))) rfl
     refine J.q λ_=>?_;refine J.storeN hX tk 1 rfl rfl rfl rfl rfl rfl rfl rfl rfl rfl rfl rfl rfl ?_ (A8 (m.set (j+1) (m.getD j dF))++r) ?_ rfl (λ_=>rfl) ⟨trivial,?_⟩
     ·rw[f8,W4];show 0+((j+1:Nat):Int).toNat*7+7<=_;omega
     ·rw[show 0+((j+1:Nat):Int).toNat*7=(j+1)*7 from by omega];exact a1q m r (j+1) _ (by omega)
     refine J.q λ_=>?_;refine J.storeN hX tk 1 rfl rfl rfl rfl rfl rfl rfl rfl rfl rfl rfl rfl rfl ?_ (A8 (a8K m (j+1))++r) ?_ rfl (λ_=>rfl) ⟨trivial,?_⟩
     ·rw[f8,W4,A7];show 0+(((j+1:Nat):Int)-1).toNat*7+7<=_;omega
     ·rw[show 0+(((j+1:Nat):Int)-1).toNat*7=j*7 from by omega];exact a1q _ r j _ (by rw[A7];omega)
     refine J.q λ_=>?_;rw[show((j+1:Nat):Int)-1=(j:Int)from by omega];refine J.q λ_=>?_;refine J.n ((j,a8K m (j+1))) (⟨by dsimp only;omega,by rw[a4U];exact hI.2.1,by rw[<- hI.2.2];exact(d8 h3).symm⟩) (by dsimp only;omega) [0,1]
   ·simp only[q9,c8]at h3;have hm:m=a0d f l (i+1-1):=by rw[show i+1-1=i from rfl,<- hI.2.2];exact(d6 h3).symm
    rw[hm];refine J.q λ_=>?_;refine J.n (i+1) (⟨by omega,by omega⟩) (by omega) [0,1]
 ·simp only[c8,i5]at h1;have hi:a0d f l (i-1)=V3 f l:=by
   rw[V3,hl,show i-1=n-1 from by omega]
  rw[hi];refine J.q λ_=>?_;refine J.f [1] ?_;exact⟨rfl,rfl⟩
def a3V (f n t l p d:Nat) (F:Fv):Atom:= .pt f 98 [pp n,pp t,pp l,pp p,pp d,iI F.nx, .bool F.off]
def FvP (f p n t l d:Nat) (F:Fv):List Atom:=[a3V f n t l p d F,a1W p n t l F.S,B8 n F.S.N,TlA t F.S.t,TbA l F.S.T,a2q d F.L]
theorem a1a (f n t l p d:Nat) (Z:Fv) (hN:Z.S.N.Ok):FP 10 [pp f] [a3V f n t l p d Z,B8 n Z.S.N] (Ps (iI Z.lg) [a3V f n t l p d Z,B8 n Z.S.N]):=by
 have hbd:=hN.bd16;have hlg:=b7h Z.S.N.dies Z.S.N.blocks Z.S.N.pages (by omega) (by omega);refine FE [2] Tryz.func10 λX F hX=>?_;refine J.qF λ_=>?_;refine J.qp (a2B n Z.S.N) [2] λ_=>?_;refine J.qp (a6a Z.S.N.dies Z.S.N.blocks Z.S.N.pages hN.geo) [] λ_=>?_;rw[hlg];exact J.qx [1,2]
theorem a1R (f n t l p d:Nat) (Z:Fv):FP 49 [pp f] [a3V f n t l p d Z,B8 n Z.S.N] (Ps (iI (if Z.ask.off=true then 9 else 0)) [a3V f n t l p d Z.ask,B8 n Z.S.N]):=by
 have hask:a3V f n t l p d Z.ask= .pt f 98 [pp n,pp t,pp l,pp p,pp d,iI Z.nx, .bool (Z.off||Z.S.N.off)]:=rfl;have hoa:Z.ask.off=(Z.off||Z.S.N.off):=rfl;rw[hask,hoa];unfold a3V;generalize Z.off=o;refine FE [2] Tryz.func49 λX F hX=>?_;refine J.qF λ_=>?_;refine J.q λ_=>?_;refine J.gcase hX rfl rfl rfl trivial (λhb=>?_) (λhb=>?_)
 ·rw[i4]at hb;subst hb;refine J.qp (a5d n Z.S.N) [2] λ_=>?_;refine J.qd (λ_ h1=>?_) λ_ h1=>?_
  ·simp only[D2,Bool.not_not]at h1;refine J.qr [1,2] λ_=>?_;rw[h1];exact⟨rfl,rfl⟩
  ·simp only[D2,Bool.not_not]at h1;refine J.qr [1,2] λ_=>?_;rw[h1];exact⟨rfl,rfl⟩
 ·rw[A9]at hb;subst hb;refine J.q λ_=>?_;refine J.v (.bool false) rfl rfl (λhg a w he hw=>by simp[G.on]at hg) ?_;refine J.qT λ_=>?_;exact J.qx [1,2]
theorem b0L (f n t l p d:Nat) (Z:Fv) (e:Int):FP 56 [pp f,iI e] [a3V f n t l p d Z] (Ps (iI e) [a3V f n t l p d (Z.told e)]):=by
 refine FE [2,0] Tryz.func56 λX F hX=>?_;exact J.qx [1]
abbrev a5t (d:List UInt8):Value:= .agg (I3 d).toArray
theorem Fv.slot_bd {S:Dv} {k m:Nat} (hO:S.Ok k m) (i:Int):0<=((Tb.look S.T.at_ i).getD AtV.zero).slot/\((Tb.look S.T.at_ i).getD AtV.zero).slot<=1000:=by
 cases hl:Tb.look S.T.at_ i with
 | none=>show(0:Int)<=0/\(0:Int)<=1000;omega
 | some a=>exact hO.sl _ (Tb.look_mem hl)
theorem a4h (f p n t l d:Nat) (Z:Fv) (k m:Nat) (hO:Z.Ok k m) (i:Int):FP 19 [pp f,iI i] (FvP f p n t l d Z)
  (λv As=>v= .tuple #[a5t (Z.read i).2.1,iI (Z.read i).2.2]/\As=FvP f p n t l d (Z.read i).1):=by
 have hlen:=hO.len;have hN:=hO.dv.gd.ok;refine FE [2,0] Tryz.func19 λX F hX=>?_;refine J.q λbz=>?_;refine J.cb (a1R f n t l p d Z) [1,3] ?_;refine cpq ⟨_,rfl,trivial,?_⟩;have hrd:Z.read i=(if Z.ask.off=true then(Z.ask,zeros16,9)else if i<0\/i>=Z.ask.lg then(Z.ask,zeros16,3)else(Z.ask,Z.ask.get i)):=rfl;obtain⟨Y,hY⟩:∃Y,Y=Z.ask:=⟨_,rfl⟩;have e1:Z.S=Y.S:=by rw[hY];rfl
 have e2:Z.L=Y.L:=by rw[hY];rfl
 rw[<- hY,e1,e2];rw[<- hY]at hrd;rw[e1]at hN;rw[e2]at hlen;cases ho:Y.off with
 | true=>
  rw[ho,d8 rfl]at hrd;refine J.qT λ_=>?_;refine J.qr [1,2,3,4,5,6] λ_=>?_;rw[hrd];exact⟨rfl,rfl⟩
 | false=>
  rw[ho,d6 l9]at hrd;refine J.qF λ_=>?_;refine J.q λ_=>?_;refine J.gcase hX rfl rfl rfl trivial (λhb=>?_) (λhb=>?_)
  ·have hi:decide (i<0)=false:=by simpa using hb
   rw[hi];refine J.qp (a1a f n t l p d Y hN) [1,3] λ_=>?_;simp only[c8]at hi;refine J.qd (λ_ h1=>?_) λ_ h1=>?_
   ·simp only[D2,a0S,d5]at h1;rw[d8 (.inr h1)]at hrd;refine J.qr [1,2,3,4,5,6] λ_=>?_;rw[hrd];exact⟨rfl,rfl⟩
   simp only[D2,a0S,c8]at h1;rw[d6 (by omega)]at hrd;refine J.qp (c0s d Y.L (by omega) i) [6] λ_=>?_;have hge:Y.get i=(if(a2J Y.L i).2=true then((a2J Y.L i).1.data,0)else match Tb.look Y.S.T.at_ i with
    | none=>(zeros16,0)
    | some a=>if a.role=2 then(zeros16,0)else if a.role=4 then(zeros16,10)else
     let x:=R.read Y.S.N a.block a.row a.slot a.mask
     if x.2≠0\/x.1.lpn≠i\/x.1.seq≠a.seq then(zeros16,10)else(x.1.data,0):List UInt8×Int):=rfl
   obtain⟨⟨we,wb⟩,hw⟩:∃w,w=a2J Y.L i:=⟨_,rfl⟩;rw[<- hw]at hge ⊢;dsimp only at hge ⊢;refine J.qd (λ_ h2=>?_) λ_ h2=>?_
   ·rw[d8 h2]at hge;refine J.qr [1,2,3,4,5,6] λ_=>?_;rw[hrd,hge];exact⟨rfl,rfl⟩
   rw[h2,d6 l9]at hge;refine J.qp (a5M l Y.S.T i) [5] λ_=>?_;obtain⟨a,ha⟩:∃a,a=(Tb.look Y.S.T.at_ i).getD AtV.zero:=⟨_,rfl⟩;obtain⟨is,his⟩:∃b,b=(Tb.look Y.S.T.at_ i).isSome:=⟨_,rfl⟩;have hslot:=Fv.slot_bd hO.dv i;rw[e1]at hslot;rw[<- ha]at hslot;rw[<- ha,<- his];cases is with
   | false=>
    cases hl:Tb.look Y.S.T.at_ i with
    | some x=>rw[hl]at his;cases his
    | none=>
     rw[hl]at hge;refine J.q λbd=>?_;refine J.cT ?_;refine J.qr [1,2,3,4,5,6] λ_=>?_;rw[hrd,hge];exact⟨rfl,rfl⟩
   | true=>
    cases hl:Tb.look Y.S.T.at_ i with
    | none=>rw[hl]at his;cases his
    | some x=>
     rw[hl]at ha hge;obtain rfl:a=x:=ha;dsimp only at hge;refine J.q λbd=>?_;refine J.cond rfl (λh3=>?_) (λh3=>?_)
     ·simp only[a1Z,D2,A4]at h3;rw[d8 h3]at hge;refine J.qr [1,2,3,4,5,6] λ_=>?_;rw[hrd,hge];exact⟨rfl,rfl⟩
     simp only[a1Z,D2,l8,H5]at h3;rw[d6 h3]at hge;refine J.qd (λ_ h4=>?_) λ_ h4=>?_
     ·simp only[A4]at h4;rw[d8 h4]at hge;refine J.qr [1,2,3,4,5,6] λ_=>?_;rw[hrd,hge];exact⟨rfl,rfl⟩
     simp only[l8,H5]at h4;rw[d6 h4]at hge;have hr:=hO.dv.gd.room;rw[e1]at hr;refine J.p (.take true 0 (.take true 1 (.take true 2 (.take false 3 (.take true 4 (.take false 5 (.take true 6 (.take false 7 (.alt false 8 ((.of [36,40,44,50,54,56])) (.alt false 12 ((.of [34,36,40,44,54,56])) .non)))))))))) [14] [1,2,3,4,5,6,7,8,9] λ_=>?_;obtain⟨⟨re,rx⟩,hre⟩:∃w,w=R.read Y.S.N a.block a.row a.slot a.mask:=⟨_,rfl⟩;rw[<- hre]at hge;dsimp only at hge;refine J.join (α:=Nat) (λx=>[si 12 rx,⟨11,pp x,10, .tt⟩,⟨9,pp (bd 0),9, .tt⟩,si 1 i,⟨4,pp (bz 0),8, .tt⟩]) (λx=>[.hp F,a3V f n t l p d Y,a1W p n t l Y.S,B8 n Y.S.N,TlA t Y.S.t,TbA l Y.S.T,a2q d Y.L, .pt (bz 0) 36 (I3 zeros16), .pt (bd 0) 133 [iI a.block,iI a.row,iI a.slot,iI a.mask,iI a.seq,iI a.role], .pt x 101 (enL re)]) (λhj=>?_) (λx=>?_)
     ·refine J.q λ_=>?_;refine J.alts ?_ ?_
      ·refine J.qp (b0v n Y.S.N hN hr a.block a.row a.slot a.mask (by omega) (by omega)) [3] λ_=>?_;rw[<- hre];refine J.qn 7 λbe=>?_;exact J.goto [0,1,2,3,4,5,6,7,9,10] (hj (be 0)) ⟨rfl,rfl,rfl,rfl,rfl,trivial⟩ rfl rfl
      ·refine J.qn 1 λbe=>?_;refine J.qp (b0v n Y.S.N hN hr a.block a.row a.slot a.mask (by omega) (by omega)) [3] λ_=>?_;rw[<- hre];refine J.qn 6 λ_=>?_;exact J.goto [0,1,2,3,4,5,6,7,9,10] (hj (be 0)) ⟨rfl,rfl,rfl,rfl,rfl,trivial⟩ rfl rfl
     refine J.qn 6 λ_=>?_;cases hx:(rx !=0)with
     | true=>
      have hx':rx≠0:=by simpa using hx
      rw[d8 (.inl hx')]at hge;refine J.qT λ_=>?_;refine J.qr [1,2,3,4,5,6] λ_=>?_;rw[hrd,hge];exact⟨rfl,rfl⟩
     | false=>
      have hx':rx=0:=by simpa using hx
      refine J.qn 6 λ_=>?_;cases hy:(re.lpn !=i)with
      | true=>
       have hy':re.lpn≠i:=by simpa using hy
       rw[d8 (.inr (.inl hy'))]at hge;refine J.qT λ_=>?_;refine J.qr [1,2,3,4,5,6] λ_=>?_;rw[hrd,hge];exact⟨rfl,rfl⟩
      | false=>
       have hy':re.lpn=i:=by simpa using hy
       refine J.qd (λ_ h5=>?_) λ_ h5=>?_
       ·have hz:re.seq≠a.seq:=by simpa using h5
        rw[d8 (.inr (.inr hz))]at hge;refine J.qr [1,2,3,4,5,6] λ_=>?_;rw[hrd,hge];exact⟨rfl,rfl⟩
       ·have hz:re.seq=a.seq:=by simpa using h5
        rw[d6 (by rw[hx',hy',hz];simp)]at hge;refine J.qr [1,2,3,4,5,6] λ_=>?_;rw[hrd,hge];exact⟨rfl,rfl⟩
  ·have hi:decide (i<0)=true:=by simpa using hb
   rw[hi];refine J.q λ_=>?_;refine J.v (.bool false) rfl rfl (λhg a w he hw=>by simp[G.on]at hg) ?_;simp only[d5]at hi;rw[d8 (.inl hi)]at hrd;refine J.qT λ_=>?_;refine J.qr [1,2,3,4,5,6] λ_=>?_;rw[hrd];exact⟨rfl,rfl⟩
theorem b9V (L:List En):dkN L (L.length:Int)=L.length:=by unfold dkN;omega
theorem b1g:∀(f:Nat) (S:Dv) (l:List En),(Dv.write f S l).2.1<=l.length
 | 0,S,l=>by show(0:Int)<=(l.length:Int);omega
 | f+1,S,l=>by
  rw[Dv.write_succ];have hf:=Dv.fit_le S.at1 l;split
  ·show(0:Int)<=(l.length:Int);omega
  split
  ·show(0:Int)<=(l.length:Int);omega
  split
  ·show(0:Int)<=(l.length:Int);omega
  split
  ·show(0:Int)<=(l.length:Int);omega
  split
  ·show(S.at1.fit l:Int)<=(l.length:Int);omega
  split
  ·show(0:Int)<=(l.length:Int);omega
  ·exact b1g f _ l
theorem a9K (f p n t l d:Nat) (Z:Fv) (k m:Nat) (hO:Z.Ok (Fv.cW+k) m) (hm:m<=1000):FP 51 [pp f] (FvP f p n t l d Z)
  (Ps (iI Z.writes.2) (FvP f p n t l d Z.writes.1)):=by
 have hlen:=hO.len;have hQ1:Z.S.Ok (Dv.costM+(8*Dv.fuel+k)) m:=hO.dv.less (by unfold Fv.cW;omega);have hr:=Dv.room_keep hQ1;have hw:Z.writes=(let r:=Z.S.room
  if r.2≠0 then({Z with S:=r.1}.told r.2,r.2)
  else
   let w:=r.1.pen Z.L
   ({Z with S:=w.1,L:=a0t Z.L (Z.L.take w.2.1.toNat)}.told w.2.2,w.2.2)):=rfl
 refine FE [2] Tryz.func51 λX F hX=>?_;refine J.p (.of [0,4,8,13,16,20,24,29,32,36,40,45,48,52,56,61,67,68]) [16,17] [1,6] λ_=>?_;refine J.qp (a4V n t l p Z.S _ m hQ1 hm) [2,3,4,5] λ_=>?_;dsimp only at hw;generalize Z.S.room=W at hw hr ⊢;obtain⟨P,er⟩:=W;dsimp only at hw hr ⊢;rw[show a3V f n t l p d Z=a3V f n t l p d {Z with S:=P}from rfl];refine J.qd (λ_ h2=>?_) λ_ h2=>?_
 ·simp only[E6,H5]at h2;rw[d8 h2]at hw;refine J.qp (b0L f n t l p d {Z with S:=P} er) [1] λ_=>?_;refine J.qr [1,2,3,4,5,6] λ_=>?_;rw[hw];exact⟨rfl,rfl⟩
 simp only[z7]at h2;rw[d6 (by rw[h2];decide)]at hw;refine J.p (.of [0,4,8,13,16,20,24,29,34,38,40]) [10] [1,2,3,4,5,6] λ_=>?_;refine J.qp (b4b d Z.L) [6] λ_=>?_;refine J.qc (b4c d Z.L (by omega) Z.L.length) [6] λ_=>?_;rintro v As ⟨a,c,rfl,rfl⟩;refine⟨_,rfl,stq,?_⟩;rw[b9V,B1 (i7 _)];refine J.know (λh' s=>a0M (show a0V _ _ a Z.L.length c _ _ from s.get (i:=7) rfl)) λhcap=>?_;rw[a6Z];have hpb:0<=(P.pen Z.L).2.1/\(P.pen Z.L).2.1<=7:=a4M _ _ _;have hple:=b1g Dv.fuel P Z.L;have hple:(P.pen Z.L).2.1<=Z.L.length:=hple;refine J.q λ_=>?_;refine J.ca hX (by kernel_rfl) (a3F p n t l P _ m hr.1 (m9 101 19 a Z.L.length c (n7 Z.L)) (oad a) Z.L.length c Z.L (Y5 101 19 a Z.L.length c (n7 Z.L)) rfl (by omega) hO.dat) [2,3,4,5,7] 0 rfl rfl rfl rfl rfl rfl (λ_=>rfl) ?_;refine cpq ⟨_,rfl,trivial,?_⟩;generalize P.pen Z.L=W at hw hpb hple ⊢;obtain⟨Q,kk,er2⟩:=W;dsimp only at hw hpb hple ⊢;obtain⟨v,rfl⟩:=f9 hpb.1;rw[j4]at hw;have hvl:v<=Z.L.length:=by omega
 have hRd:Rd (m9 101 19 a Z.L.length c (n7 Z.L)) (oad a) 19 v (n7 (Z.L.take v)):=by
  have:=(Y5 101 19 a Z.L.length c (n7 Z.L)).take v hvl
  rwa [a3i]at this
 refine J.pn 6 (.of [0,4,8,13,16,20,24,30]) [] [1,2,3,4,5] λ_ _=>?_;refine J.vT (.slice (oad a) v c) rfl rfl (λhg aa w he hC=>a3Q tk rfl rfl rfl he rfl rfl rfl rfl (by omega)) ?_;refine J.qc (b8g d Z.L (by omega) (m9 101 19 a Z.L.length c (n7 Z.L)) (oad a) v c (Z.L.take v) hRd (by rw[j9];omega) (by omega)) [6,7] λ_=>?_;rintro v2 As ⟨rfl,rfl⟩;refine⟨_,rfl,stq,?_⟩;rw[show a3V f n t l p d {Z with S:=P}=a3V f n t l p d {Z with S:=Q,L:=a0t Z.L (Z.L.take v)}from rfl];refine J.qc (b0L f n t l p d {Z with S:=Q,L:=a0t Z.L (Z.L.take v)} er2) [1] λ_=>?_;rintro v2 As ⟨rfl,rfl⟩;refine⟨_,rfl,trivial,?_⟩;refine J.qr [1,2,3,4,5,6] λ_=>?_;rw[hw];exact⟨rfl,rfl⟩
end Go.Proofs.YtmafiplddapokaaGreat
