/- Helpers. No condition. -/
import Derived.Test.YtpakpgkdpofbhaaGreatE00
import Derived.Test.YtpakpgkdpofbhaaGreatE04
import Derived.Test.YtpakpgkdpofbhaaGreatE05
import Derived.Test.YtpakpgkdpofbhaaGreatE10
import Derived.Test.YtpakpgkdpofbhaaGreatE11
import Derived.Test.YtpakpgkdpofbhaaGreatE12
import Derived.Test.YtpakpgkdpofbhaaGreatE14
import Derived.Test.YtpakpgkdpofbhaaGreatE15
set_option maxRecDepth 20000
set_option linter.all false
namespace Go.Proofs.YtpakpgkdpofbhaaGreat
open Go Go.RowKit
theorem a8R {α:Type} [BEq α] [LawfulBEq α]:∀{K M:List α},K.Nodup->(∀x∈K,x∈M)->K.length<=M.length
 | [],M,_,_=>l8 _
 | x::K,M,h,hs=>by
  obtain⟨h1,h2⟩:=List.nodup_cons.1 h;have hx:=hs x (by simp);have h3:=a8R (M:=M.erase x) h2 λy hy=>by
   have hne:y≠x:=λe=>h1 (by rw[<- e];exact hy);exact(List.mem_erase_of_ne hne).2 (hs y (by simp[hy]))
  rw[List.length_erase_of_mem hx]at h3;have:0<M.length:=List.length_pos_of_mem hx;rw[n4];omega
theorem a2C {N:Nand} (h:N.Ok):1<=lgN N.dies N.blocks N.pages/\lgN N.dies N.blocks N.pages<=200:=by
 obtain⟨hd,hb,hp⟩:=h.bd16;generalize N.dies=d at*;generalize N.blocks=b at*;generalize N.pages=p at*;have h2:3*2<=(b-5)*p:=U0 (by omega) hp.1;have h3:6*1<=(b-5)*p*(d-2):=U0 h2 (by omega);have h4:(b-5)*p<=11*8:=U0 (by omega) hp.2;have h5:(b-5)*p*(d-2)<=88*4:=U0 h4 (by omega);unfold lgN;omega
theorem b1r {N N':Nand} (h:N.Like N'):lgN N'.dies N'.blocks N'.pages=lgN N.dies N.blocks N.pages:=by rw[h.dies,h.blocks,h.pages]
theorem a3p {α:Type} {M:Nand} (f:Tl->α->Tl) (hf:∀t a,t.Fit M->(f t a).Fit M):∀(q:List α) (t:Tl),t.Fit M->(q.foldl f t).Fit M
 | [],_,h=>h
 | a::q,t,h=>a3p f hf q (f t a) (hf t a h)
theorem Tl.Fit.ofD {M N:Nand} {t:Tl} (h:t.Fit M) (b d:Nat):(Tl.ofD N b t d).Fit M:=by
 unfold Tl.ofD;dsimp only;split
 ·exact(h.wore _ _).clean _ _
 ·exact h.wore _ _
theorem Tl.Fit.ofB {M N:Nand} {t:Tl} (h:t.Fit M) (b:Nat):(Tl.ofB N t b).Fit M:=a3p _ (λ_ d h=>h.ofD b d) _ _ h
theorem Tl.Fit.new (N:Nand):(Tl.new N.dies N.blocks N.pages).Fit N:=⟨rfl,rfl,rfl,by show(List.replicate N.blocks Sb.zero).length=N.blocks;rw[W6]⟩
theorem Tl.Fit.seeDead {M N:Nand} {t:Tl} (h:t.Fit M):(Dv.seeDead N t).Fit M:=a3p _ (λt d h=>by split;(· exact h.die _);exact h) _ _ h
theorem Tl.Fit.of (N:Nand):(Tl.of N).Fit N:=a3p _ (λ_ b h=>h.ofB b) _ _ (Tl.Fit.new N).seeDead
theorem c0O {N:Nand} (hN:N.Ok) {b r:Int} {f:Fnd} (h:f∈R.all N b r):(0<=f.slot/\f.slot<=1000)/\f.en.data.length=16:=by
 unfold R.all at h;rw[J1]at h;obtain⟨m,_,h⟩:=h;unfold R.allM at h;rw[List.mem_filterMap]at h;obtain⟨k,hk,h⟩:=h;rw[I4,(X2 N b r m).1]at hk;have hs:=Dv.slots_le m;unfold R.fnd at h;split at h
 ·injection h with h;subst h;refine⟨by show(0:Int)<=((k:Nat):Int)/\((k:Nat):Int)<=1000;omega,?_⟩;show(R.enAt (R.look N b r m) k).data.length=16;unfold R.enAt;split
  ·have hl:=(X2 N b r m).1;rw[f9,d6 (by omega)];exact(a2g hN b r m).1 _ (E6 _)
  ·exact b1k hN b r m k
 ·cases h
theorem c1f {N:Nand} (hN:N.Ok) {f:Fnd} (h:f∈V.all N):(0<=f.slot/\f.slot<=1000)/\f.en.data.length=16:=by
 unfold V.all at h;rw[J1]at h;obtain⟨b,_,h⟩:=h;rw[J1]at h;obtain⟨r,_,h⟩:=h;exact c0O hN h
theorem b7r {N:Nand} (hN:N.Ok) (n:Int):∀k,(∀x∈(V.goS N (V.all N) n k).tb.at_,0<=x.2.slot/\x.2.slot<=1000)/\(∀s∈(V.goS N (V.all N) n k).torn,s.data.length=16)/\∀s∈(V.goS N (V.all N) n k).others,s.data.length=16
 | 0=>⟨λx hx=>by simp[V.goS,Tb.new]at hx,λs hs=>by simp[V.goS]at hs,λs hs=>by simp[V.goS]at hs⟩
 | k+1=>by
  obtain⟨h1,h2,h3⟩:=b7r hN n k;rw[V.goS_succ];unfold V.step;split
  ·rename_i hs;have hm:=V.standOf_mem hs;unfold V.of at hm;obtain⟨e1,e2⟩:=c1f hN (List.mem_filter.1 hm).1;have hp:=Tb.put_slot (e:=(V.standOf (V.of (V.all N) k)).1.en) (b:=(V.standOf (V.of (V.all N) k)).1.block) (r:=(V.standOf (V.of (V.all N) k)).1.row) (m:=(V.standOf (V.of (V.all N) k)).1.mask) h1 e1;have ha:∀l:List En,(∀s∈l,s.data.length=16)->∀s∈l++[(V.standOf (V.of (V.all N) k)).1.en],s.data.length=16:=λl hl s hs=>by
    rcases List.mem_append.1 hs with hs | hs
    ·exact hl s hs
    ·rw[I3]at hs;rw[hs];exact e2
   split
   ·exact⟨hp,h2,h3⟩
   split
   ·exact⟨hp,ha _ h2,h3⟩
   ·exact⟨hp,h2,ha _ h3⟩
  ·exact⟨h1,h2,h3⟩
theorem a9J {N:Nand} (hN:N.Ok) (n:Int):(V.scan N n).tb.Ok/\(∀x∈(V.scan N n).tb.at_,0<=x.2.slot/\x.2.slot<=1000)/\(∀s∈(V.scan N n).torn,s.data.length=16)/\(1<=(V.scan N n).next/\(V.scan N n).next<=1099511627776):=by
 obtain⟨h1,h2,h3⟩:=b7r hN n (V.size n);refine⟨V.goS_ok N (V.all N) n (V.size n),h1,λs hs=>?_,V.nextOf_bd λf hf=>(b2P hf).2⟩;have hs:s∈(V.goS N (V.all N) n (V.size n)).torn++(V.goS N (V.all N) n (V.size n)).others:=hs;rcases List.mem_append.1 hs with hs | hs
 ·exact h2 s hs
 ·exact h3 s hs
theorem a8G {N:Nand} {m:Nat} (hm:m<=65536):(V.scan N m).first<=(V.scan N m).torn.length/\((V.scan N m).torn.take (V.scan N m).first).length<=m/\((V.scan N m).torn.drop (V.scan N m).first).length<=m/\(V.scan N m).torn.length<=2*m:=by
 have hsz:V.size (m:Int)=m:=by unfold V.size;omega
 have h1:=V.goS_len N (V.all N) m (V.size m);rw[hsz]at h1;have e1:(V.scan N m).first=(V.goS N (V.all N) m m).torn.length:=by show(V.goS N (V.all N) m (V.size m)).torn.length=_;rw[hsz]
 have e2:(V.scan N m).torn=(V.goS N (V.all N) m m).torn++(V.goS N (V.all N) m m).others:=by show(V.goS N (V.all N) m (V.size m)).torn++(V.goS N (V.all N) m (V.size m)).others=_;rw[hsz]
 rw[e1,e2,m9,B2,i5];omega
theorem b3V {N:Nand} (hN:N.Ok) (n:Int):(V.scan N n).held.length<=6000:=by
 have h1:=V.goS_held N (V.all N) n (V.size n);have h2:=b3F N hN;have h3:=b4k (V.goS N (V.all N) n (V.size n)).held;show(a7l (V.goS N (V.all N) n (V.size n)).held).length<=_;omega
namespace Dv
variable {S : Dv} {N : Nand} {k m : Nat}
theorem Ok.holds (h:S.Ok k m) (l:List Int) (on:Bool):(S.holds l on).Ok k m:=⟨h.gd,a3p _ (λ_ _ h=>h.hold _ _) _ _ h.t,h.T,h.sl,h.row,h.next⟩
def mt0 (N:Nand):Dv:=⟨N,Tl.of N,(V.scan N (lgN N.dies N.blocks N.pages)).tb,-1,0,0,max (V.scan N (lgN N.dies N.blocks N.pages)).next 1⟩
theorem Ok.mt0 (hG:N.Gd k m):(Dv.mt0 N).Ok k m:=by
 obtain⟨h1,h2,_,h4⟩:=a9J hG.ok (lgN N.dies N.blocks N.pages);refine⟨hG,Tl.Fit.of N,h1,h2,by show(0:Int)<=0/\(0:Int)<=8;omega,?_⟩;show 1<=max (V.scan N (lgN N.dies N.blocks N.pages)).next 1/\max (V.scan N (lgN N.dies N.blocks N.pages)).next 1<=_;omega
theorem mt0_log (hG:N.Gd k m):(Dv.mt0 N).T.logical=(lgN N.dies N.blocks N.pages:Int):=by
 have h:=a2C hG.ok;have:=V.goS_log N (V.all N) (lgN N.dies N.blocks N.pages) (V.size (lgN N.dies N.blocks N.pages));show(V.goS N (V.all N) (lgN N.dies N.blocks N.pages) (V.size (lgN N.dies N.blocks N.pages))).tb.logical=_;rw[this];omega
theorem torn_keep {l:List En} {c:Nat} (h:S.Ok (costT*c+k) m) (hl:l.length<=c) (hd:∀s∈l,s.data.length=16):(S.torn l).1.Ok k m/\S.N.Like (S.torn l).1.N/\(S.torn l).1.T.logical=S.T.logical:=
 tornGo_keep _ S l k (h.less (by have:=x5 costT hl;omega)) hd
def costK:Nat:=costT*200+(96+(costT*200+costM))
end Dv
theorem a7r (N:Nand):M3 N=(let s:=V.scan N (lgN N.dies N.blocks N.pages)
 let a:=((Dv.mt0 N).holds s.held true).torn (s.torn.take s.first)
 if a.2≠0 then a
 else
  let b:=(a.1.holds s.held false).clear
  if b.2≠0 then b
  else
   let c:=b.1.torn (s.torn.drop s.first)
   if c.2≠0 then c else c.1.room):=rfl
theorem a7q {N:Nand} {k m:Nat} (hG:N.Gd (Dv.costK+k) m):(M3 N).1.Ok k m/\N.Like (M3 N).1.N/\(M3 N).1.T.logical=(lgN N.dies N.blocks N.pages:Int):=by
 have h200:=a2C hG.ok;obtain⟨t1,t2,t3,_⟩:=a8G (N:=N) (m:=lgN N.dies N.blocks N.pages) (by omega);obtain⟨_,_,hd,_⟩:=a9J hG.ok (lgN N.dies N.blocks N.pages);have h0:=Dv.Ok.mt0 hG;have hlog:=Dv.mt0_log hG;have hd1:∀s∈(V.scan N (lgN N.dies N.blocks N.pages)).torn.take (V.scan N (lgN N.dies N.blocks N.pages)).first,s.data.length=16:=λs hs=>hd s (D7 hs)
 have hd2:∀s∈(V.scan N (lgN N.dies N.blocks N.pages)).torn.drop (V.scan N (lgN N.dies N.blocks N.pages)).first,s.data.length=16:=λs hs=>hd s (O1 hs)
 rw[a7r];dsimp only;have ha:=Dv.torn_keep (k:=96+(Dv.costT*200+(Dv.costM+k))) (c:=200) ((h0.holds (V.scan N (lgN N.dies N.blocks N.pages)).held true).less (by unfold Dv.costK;omega)) (by omega) hd1;have ea:((Dv.mt0 N).holds (V.scan N (lgN N.dies N.blocks N.pages)).held true).N=N:=rfl;have ea2:((Dv.mt0 N).holds (V.scan N (lgN N.dies N.blocks N.pages)).held true).T=(Dv.mt0 N).T:=rfl;rw[ea,ea2,hlog]at ha;split
 ·exact⟨ha.1.less (by omega),ha.2⟩
 generalize(((Dv.mt0 N).holds (V.scan N (lgN N.dies N.blocks N.pages)).held true).torn ((V.scan N (lgN N.dies N.blocks N.pages)).torn.take (V.scan N (lgN N.dies N.blocks N.pages)).first)).1=A at ha;have hb:=Dv.clear_keep (ha.1.holds (V.scan N (lgN N.dies N.blocks N.pages)).held false);have eb:(A.holds (V.scan N (lgN N.dies N.blocks N.pages)).held false).N=A.N:=rfl;have eb2:(A.holds (V.scan N (lgN N.dies N.blocks N.pages)).held false).T=A.T:=rfl;rw[eb,eb2]at hb;split
 ·exact⟨hb.1.less (by omega),ha.2.1.trans hb.2.1,by rw[hb.2.2];exact ha.2.2⟩
 have hc:=Dv.torn_keep (k:=Dv.costM+k) (c:=200) hb.1 (G9 t3 h200.2) hd2;split
 ·exact⟨hc.1.less (by omega),(ha.2.1.trans hb.2.1).trans hc.2.1,by rw[hc.2.2,hb.2.2];exact ha.2.2⟩
 have hr:=Dv.room_keep hc.1;exact⟨hr.1,((ha.2.1.trans hb.2.1).trans hc.2.1).trans hr.2.1,by rw[hr.2.2,hc.2.2,hb.2.2];exact ha.2.2⟩
structure Fv.Ok (F:Fv) (k m:Nat):Prop where
 dv:F.S.Ok k m
 dat:∀e∈F.L,e.data.length=16
 rng:∀e∈F.L,0<=e.lpn/\e.lpn<F.lg
 nd:(F.L.map (·.lpn)).Nodup
 nx:0<=F.nx/\F.nx+(k:Int)<=4611686018427387904
namespace Fv
variable {F : Fv} {k m : Nat}
theorem lg_like {F G:Fv} (h:F.S.N.Like G.S.N):G.lg=F.lg:=by unfold lg;rw[b1r h]
theorem lg_bd (h:F.S.N.Ok):1<=F.lg/\F.lg<=200:=by have:=a2C h;unfold lg;omega
theorem Ok.less (h:F.Ok k m) {k':Nat} (hk:k'<=k):F.Ok k' m:=⟨h.dv.less hk,h.dat,h.rng,h.nd,by have:=h.nx;omega⟩
theorem Ok.len (h:F.Ok k m):F.L.length<=200:=by
 have hb:=lg_bd h.dv.gd.ok;have h1:=a8R (K:=F.L.map (·.lpn)) (M:=(List.range F.lg.toNat).map λi:Nat=>(i:Int)) h.nd λx hx=>by
  obtain⟨e,he,rfl⟩:=List.mem_map.1 hx;have:=h.rng e he;exact List.mem_map.2 ⟨e.lpn.toNat,List.mem_range.2 (by omega),by omega⟩
 simp at h1;omega
theorem Ok.ask (h:F.Ok k m):F.ask.Ok k m:=⟨h.dv,h.dat,h.rng,h.nd,h.nx⟩
def cW:Nat:=Dv.costM+8*Dv.fuel
theorem done_sub (L l:List En):(Z6 L l).Sublist L:=a4h
theorem done_lt {L:List En} {n:Nat} (h:L.length≠0) (hn:1<=n):(Z6 L (L.take n)).length<L.length:=by
 unfold Z6;rw[List.length_filter_lt_length_iff_exists];cases L with
 | nil=>exact absurd rfl h
 | cons x L=>
  refine⟨x,E5 ..,?_⟩;obtain⟨c,rfl⟩:∃c,n=c+1:=⟨n-1,by omega⟩;simp
structure Kept (F G:Fv):Prop where
 like:F.S.N.Like G.S.N
 log:G.S.T.logical=F.S.T.logical
theorem Kept.refl (F:Fv):Kept F F:=⟨Nand.Like.refl _,rfl⟩
theorem Kept.ask (F:Fv):Kept F F.ask:=⟨Nand.Like.refl _,rfl⟩
theorem Kept.trans {F G H:Fv} (h:Kept F G) (h2:Kept G H):Kept F H:=⟨h.like.trans h2.like,h2.log.trans h.log⟩
theorem Ok.with_ {S:Dv} {L:List En} {off:Bool} {k':Nat} (h:F.Ok k' m) (hS:S.Ok k m) (hk:k<=k') (hl:F.S.N.Like S.N) (hL:L.Sublist F.L):(⟨S,L,F.nx,off⟩:Fv).Ok k m:=
 ⟨hS,λe he=>h.dat e (hL.subset he),λe he=>by rw[lg_like (F:=F) (G:=⟨S,L,F.nx,off⟩) hl];exact h.rng e (hL.subset he),h.nd.sublist (hL.map _),by have:=h.nx;show 0<=F.nx/\F.nx+(k:Int)<=_;omega⟩
theorem writes_keep (h:F.Ok (cW+k) m):F.writes.1.Ok k m/\Kept F F.writes.1/\F.writes.1.L.length<=F.L.length/\(F.writes.2=0->F.L.length≠0->F.writes.1.L.length<F.L.length):=by
 have hr:=Dv.room_keep (S:=F.S) (k:=8*Dv.fuel+k) (m:=m) (h.dv.less (by unfold cW;omega));have he:F.writes=(let r:=F.S.room
  if r.2≠0 then({F with S:=r.1}.told r.2,r.2)
  else
   let w:=r.1.pen F.L
   ({F with S:=w.1,L:=Z6 F.L (F.L.take w.2.1.toNat)}.told w.2.2,w.2.2)):=rfl
 dsimp only at he
 by_cases h0:F.S.room.2≠0
 ·rw[i3 h0]at he;rw[he];exact⟨h.with_ (hr.1.less (by omega)) (by omega) hr.2.1 (a6s _),⟨hr.2.1,hr.2.2⟩,j7 _,λe=>absurd e h0⟩
 ·rw[g7 h0]at he;have hp:=Dv.pen_keep hr.1 h.dat
  have ht:=λe hl=>Dv.pen_took hr.1 h.dat e hl;rw[he];refine⟨h.with_ hp.1 (by omega) (hr.2.1.trans hp.2.1) (done_sub _ _),⟨hr.2.1.trans hp.2.1,hp.2.2.trans hr.2.2⟩,(done_sub _ _).length_le,λe hl=>?_⟩;have:=ht e hl;exact done_lt hl (by omega)
theorem flushGo_keep:∀(f:Nat) (F:Fv) (k:Nat),F.Ok (cW*f+k) m->(flushGo f F).1.Ok k m/\Kept F (flushGo f F).1
 | 0,F,k,h=>⟨h.less (by omega), .refl _⟩
 | f+1,F,k,h=>by
  rw[flushGo];split
  ·exact⟨h.less (by omega), .refl _⟩
  have hw:=writes_keep (F:=F) (k:=cW*f+k) (h.less (by rw[E9];omega));dsimp only;split
  ·exact⟨hw.1.less (by omega),hw.2.1⟩
  ·have ih:=flushGo_keep f F.writes.1 k hw.1;exact⟨ih.1,hw.2.1.trans ih.2⟩
theorem flush_keep (h:F.Ok (cW*200+k) m):F.flush.1.Ok k m/\Kept F F.flush.1:=by
 unfold flush;split
 ·exact⟨h.ask.less (by omega), .ask _⟩
 ·have hl:=h.len;have hm:cW*F.L.length<=cW*200:=x5 _ hl;have r:=flushGo_keep F.L.length F.ask k (h.ask.less (by omega));exact⟨r.1,⟨r.2.like,r.2.log⟩⟩
theorem put_ok (h:F.Ok (1+k) m) {e:En} (hd:e.data.length=16) (hr:¬(e.lpn<0\/e.lpn>=F.lg)):(F.put e).Ok k m:=by
 have hlg:(F.put e).lg=F.lg:=rfl;refine⟨h.dv.less (by omega),λx hx=>?_,λx hx=>?_,?_,by have:=h.nx;show 0<=F.nx+1/\F.nx+1+(k:Int)<=_;omega⟩
 ·have hx:x∈(F.L.filter λy:En=>!(y.lpn==e.lpn))++[({e with seq:=F.nx}:En)]:=hx;rcases List.mem_append.1 hx with hx | hx
  ·exact h.dat x (List.mem_filter.1 hx).1
  ·rw[I3]at hx;rw[hx];exact hd
 ·have hx:x∈(F.L.filter λy:En=>!(y.lpn==e.lpn))++[({e with seq:=F.nx}:En)]:=hx;rw[hlg];rcases List.mem_append.1 hx with hx | hx
  ·exact h.rng x (List.mem_filter.1 hx).1
  ·rw[I3]at hx;rw[hx];show 0<=e.lpn/\e.lpn<F.lg;omega
 ·show(((F.L.filter λy:En=>!(y.lpn==e.lpn))++[({e with seq:=F.nx}:En)]).map (·.lpn)).Nodup;rw[x7,K6];refine⟨a5a ((a4h (p:=λx:En=>!(x.lpn==e.lpn)) (l:=F.L)).map (·.lpn)) h.nd,by simp,λa ha b hb hab=>?_⟩;obtain⟨x,hx,rfl⟩:=List.mem_map.1 ha;simp at hb;have:=(List.mem_filter.1 hx).2;rw[hab,hb]at this;simp at this
theorem waits_keep (h:F.Ok (cW+(1+k)) m) {e:En} (hd:e.data.length=16):(F.waits e).1.Ok k m/\Kept F (F.waits e).1:=by
 unfold waits;split
 ·exact⟨h.ask.less (by omega), .ask _⟩
 split
 ·exact⟨h.ask.less (by omega), .ask _⟩
 rename_i hr;have hr:¬(e.lpn<0\/e.lpn>=F.lg):=hr;split
 ·have hw:=writes_keep h.ask;dsimp only;split
  ·exact⟨hw.1.less (by omega),⟨hw.2.1.like,hw.2.1.log⟩⟩
  ·refine⟨put_ok hw.1 hd ?_,⟨hw.2.1.like,hw.2.1.log⟩⟩;rw[lg_like (F:=F) (G:=F.ask.writes.1) hw.2.1.like];exact hr
 ·exact⟨put_ok (h.ask.less (by omega)) hd hr,⟨Nand.Like.refl _,rfl⟩⟩
theorem write_keep (h:F.Ok (cW+(1+k)) m) (i:Int) {d:List UInt8} (hd:d.length=16):(F.write i d).1.Ok k m/\Kept F (F.write i d).1:=waits_keep h hd
theorem trim_keep (h:F.Ok (cW+(1+k)) m) (i:Int):(F.trim i).1.Ok k m/\Kept F (F.trim i).1:=waits_keep h rfl
theorem tick_keep (h:F.Ok (Dv.costS+k) m):F.tick.1.Ok k m/\Kept F F.tick.1:=by
 unfold tick;split
 ·exact⟨h.ask.less (by omega), .ask _⟩
 ·have hs:=Dv.step_keep h.ask.dv 4;exact⟨h.ask.with_ hs.1 (by omega) hs.2.1 (a6s _),⟨hs.2.1,hs.2.2⟩⟩
theorem whole_keep (h:F.Ok k m):F.whole.1.Ok k m/\Kept F F.whole.1:=by
 unfold whole;split
 ·exact⟨h.ask, .ask _⟩
 ·exact⟨h.ask.with_ h.dv.seen (j7 _) (Nand.Like.refl _) (a6s _),⟨Nand.Like.refl _,rfl⟩⟩
theorem read_keep (h:F.Ok k m) (i:Int):(F.read i).1.Ok k m/\Kept F (F.read i).1:=by
 unfold read;split
 ·exact⟨h.ask, .ask _⟩
 split
 ·exact⟨h.ask, .ask _⟩
 ·exact⟨h.ask, .ask _⟩
theorem of_ok {S:Dv} (h:S.Ok k m) (hk:k<=1000000000000000):(Fv.of S).Ok k m:=⟨h,λ_ h=>(by cases h),λ_ h=>(by cases h),a0X,by show(0:Int)<=0/\(0:Int)+(k:Int)<=_;omega⟩
end Fv
theorem Tl.set_dead2 (t:Tl) (k:Int) (s:Sb):(t.set k s).dead=t.dead/\(t.set k s).d=t.d/\(t.set k s).b=t.b:=by unfold Tl.set;split<;>exact⟨rfl,rfl,rfl⟩
theorem a9I {N:Nand} {t:Tl} (hd:t.d=N.dies) (h6:N.dies<=6) (hs:L.set t.dead=true):L.set (Dv.seeDead N t).dead=true/\(∀e:Int,L.has (Dv.seeDead N t).dead e=(L.has t.dead e||N.deadAt e))/\(Dv.seeDead N t).l=t.l/\(Dv.seeDead N t).b=t.b/\(Dv.seeDead N t).d=t.d:=by
 have key:∀n,n<=t.d->∀u,u=(List.range n).foldl (λ(t:Tl) (d:Nat)=>if N.deadAt d then t.die d else t) t->L.set u.dead=true/\(∀e:Int,L.has u.dead e=(L.has t.dead e||(decide (e<n)&&N.deadAt e)))/\u.l=t.l/\u.b=t.b/\u.d=t.d:=by
  intro n
  induction n with
  | zero=>
   intro _ u hu;subst hu;refine⟨hs,λe=>?_,rfl,rfl,rfl⟩;have:(decide (e<((0:Nat):Int))&&N.deadAt e)=false:=by
    cases h:N.deadAt e with
    | false=>simp
    | true=>
     unfold Nand.deadAt at h;simp only[i4,d7]at h;rw[s8 (by omega),W4]
   rw[this,a6G]
  | succ n ih=>
   intro hn u hu;rw[x6,A7]at hu;obtain⟨v,hv⟩:∃v,v=(List.range n).foldl (λ(t:Tl) (d:Nat)=>if N.deadAt d then t.die d else t) t:=⟨_,rfl⟩;rw[<- hv]at hu;obtain⟨a1,a2,a3,a4,a5⟩:=ih (by omega) v hv;have hu:u=if N.deadAt n then v.die n else v:=hu
   cases hdd:N.deadAt n with
   | false=>
    rw[hdd,g7 m6]at hu;rw[hu];refine⟨a1,λe=>?_,a3,a4,a5⟩;rw[a2]
    by_cases he:e=(n:Int)
    ·rw[he,hdd];simp
    ·have:decide (e<((n+1:Nat):Int))=decide (e<(n:Int)):=by
      by_cases h:e<(n:Int)
      ·rw[i9 h,i9 (by omega)]
      ·rw[s8 h,s8 (by omega)]
     rw[this]
   | true=>
    rw[hdd,i3 rfl]at hu;have hdie:v.die n=⟨v.d,v.b,v.p,v.l,L.with_ v.dead n⟩:=by
     unfold Tl.die;rw[i3];unfold Tl.hasDie;rw[i9 (by omega),i9 (by omega)];rfl
    rw[hdie]at hu;rw[hu];refine⟨L.set_with a1 (by omega),λe=>?_,a3,a4,a5⟩;show L.has (L.with_ v.dead n) e=_;rw[L.with_has a1 (by omega),a2]
    by_cases he:e=(n:Int)
    ·rw[he,hdd,i9 (show(n:Int)<((n+1:Nat):Int)by omega)];simp
    ·have:decide (e<((n+1:Nat):Int))=decide (e<(n:Int)):=by
      by_cases h:e<(n:Int)
      ·rw[i9 h,i9 (by omega)]
      ·rw[s8 h,s8 (by omega)]
     rw[this,s8 he,a6G]
 obtain⟨b1,b2,b3,b4,b5⟩:=key t.d (j7 _) _ rfl;refine⟨b1,λe=>?_,b3,b4,b5⟩;show L.has ((List.range t.d).foldl (λ(t:Tl) (d:Nat)=>if N.deadAt d then t.die d else t) t).dead e=_;rw[b2];cases h:N.deadAt e with
 | false=>simp
 | true=>
  unfold Nand.deadAt at h;simp only[i4,d7]at h;rw[i9 (by omega)];rfl
def a4o (dd:Int) (N:Nand) (b k:Nat):Bool:=(List.range k).any λd=>!L.has dd (d:Nat)&&decide ((N.blk d b).cells≠[])
theorem b1Y (dd:Int) (N:Nand) (b k:Nat):a4o dd N b (k+1)=(a4o dd N b k||(!L.has dd (k:Nat)&&decide ((N.blk k b).cells≠[]))):=by
 unfold a4o;rw[x6,List.any_append];simp
namespace Tl
variable {N : Nand} {t : Tl}
theorem ofD_spec (hF:t.Fit N) (h6:N.dies<=6) (hs:L.set t.dead=true) {b d:Nat} (hb:b<N.blocks) (hbad:(t.at_ b).bad=0) (hd:d<N.dies):
  (ofD N b t d).dead=t.dead/\(ofD N b t d).Fit N/\(∀x:Nat,x<N.blocks->x≠b->(ofD N b t d).at_ x=t.at_ x)/\((ofD N b t d).at_ b).bad=0/\((ofD N b t d).at_ b).held=(t.at_ b).held/\((ofD N b t d).at_ b).used=((t.at_ b).used||(!L.has t.dead (d:Nat)&&decide ((N.blk d b).cells≠[]))):=by
 have hh:∀x:Nat,x<N.blocks->t.has (x:Int)=true:=λx hx=>Tl.has_iff.2 (by have:=hF.b;omega);obtain⟨u,hu⟩:∃u,t.wore b (N.wornAt d b)=u:=⟨_,rfl⟩;have hud:u.dead=t.dead/\u.d=t.d/\u.b=t.b:=by rw[<- hu];exact Tl.set_dead2 _ _ _
 have huF:u.Fit N:=by rw[<- hu];exact hF.wore _ _
 have huh:∀x:Nat,x<N.blocks->u.has (x:Int)=true:=λx hx=>Tl.has_iff.2 (by have:=huF.b;omega);have hua:∀x:Nat,x<N.blocks->u.at_ x=if(x:Int)=(b:Int)then {t.at_ b with wear:=if N.wornAt d b>(t.at_ b).wear then N.wornAt d b else(t.at_ b).wear}else t.at_ x:=λx hx=>by
  rw[<- hu];exact Tl.at_set (by rw[hF.len]) _ (hh b hb) (hh x hx)
 have hub:=hua b hb;rw[i3 rfl]at hub;have hmk:L.has (u.mask b) (d:Nat)= !L.has t.dead (d:Nat):=by
  have h1:=(R4 (t:=u) (b:=b) (by have:=huF.d;omega) (huh b hb) (by rw[hud.1];exact hs) (by rw[hub];show L.set (t.at_ b).bad=true;rw[hbad];decide)).2 (d:Nat);rw[h1,hud.1,hub];show(((decide ((0:Int)<=(d:Nat))&&decide (((d:Nat):Int)<u.d))&& !L.has t.dead (d:Nat))&& !L.has (t.at_ b).bad (d:Nat))=_;rw[hbad,L.has_zero,i9 (by omega),i9 (by have:=huF.d;omega)];simp
 have hnx:decide ((N.next d b:Int)>0)=decide ((N.blk d b).cells≠[]):=by
  unfold Nand.next;rw[i3 ⟨by omega,by omega,by omega,by omega⟩,j4,j4];cases(N.blk d b).cells with
  | nil=>rfl
  | cons c l=>rw[i9 (by rw[n4];omega),i9 (by simp)]
 have hof:ofD N b t d=if(!L.has t.dead (d:Nat)&&decide ((N.blk d b).cells≠[]))then u.clean b false else u:=by
  unfold ofD;rw[hu];dsimp only;rw[hmk,hnx]
 rw[hof];split
 ·rename_i hc;rw[hc];have hca:∀x:Nat,x<N.blocks->(u.clean b false).at_ x=if(x:Int)=(b:Int)then {u.at_ b with used:=!false}else u.at_ x:=λx hx=>Tl.at_set (by rw[huF.len]) _ (huh b hb) (huh x hx)
  have hcb:=hca b hb;rw[i3 rfl]at hcb;have hx:=Tl.set_dead2 u b {u.at_ b with used:=!false};refine⟨hx.1.trans hud.1,huF.clean _ _,λx hx hne=>?_,?_,?_,?_⟩
  ·rw[hca x hx,g7 (by omega),hua x hx,g7 (by omega)]
  ·rw[hcb,hub];exact hbad
  ·rw[hcb,hub]
  ·rw[hcb];simp
 ·rename_i hc;have hc:(!L.has t.dead (d:Nat)&&decide ((N.blk d b).cells≠[]))=false:=by simpa using hc
  rw[hc];refine⟨hud.1,huF,λx hx hne=>?_,?_,?_,?_⟩
  ·rw[hua x hx,g7 (by omega)]
  ·rw[hub];exact hbad
  ·rw[hub]
  ·rw[hub];simp
structure OfS (N:Nand) (t0:Tl) (n:Nat) (t:Tl):Prop where
 fit:t.Fit N
 dead:t.dead=t0.dead
 at_:∀b:Nat,b<N.blocks->(t.at_ b).bad=0/\(t.at_ b).held=false/\(t.at_ b).used=(decide (b<n)&&a4o t0.dead N b N.dies)
theorem ofB_spec {t0:Tl} {n:Nat} (h:OfS N t0 n t) (h6:N.dies<=6) (hs:L.set t0.dead=true) (hn:n<N.blocks):OfS N t0 (n+1) (ofB N t n):=by
 have key:∀k,k<=N.dies->∀u,u=(List.range k).foldl (ofD N n) t->u.Fit N/\u.dead=t0.dead/\(∀x:Nat,x<N.blocks->x≠n->u.at_ x=t.at_ x)/\(u.at_ n).bad=0/\(u.at_ n).held=false/\(u.at_ n).used=a4o t0.dead N n k:=by
  intro k
  induction k with
  | zero=>
   intro _ u hu;subst hu;obtain⟨a1,a2,a3⟩:=h.at_ n hn;exact⟨h.fit,h.dead,λ_ _ _=>rfl,a1,a2,a3.trans (by rw[s8 (Nat.lt_irrefl _)];rfl)⟩
  | succ k ih=>
   intro hk u hu;rw[x6,A7]at hu;obtain⟨v,hv⟩:∃v,v=(List.range k).foldl (ofD N n) t:=⟨_,rfl⟩;rw[<- hv]at hu;have hu:u=ofD N n v k:=hu;obtain⟨a1,a2,a3,a4,a5,a6⟩:=ih (by omega) v hv;obtain⟨b1,b2,b3,b4,b5,b6⟩:=ofD_spec a1 h6 (by rw[a2];exact hs) hn a4 (show k<N.dies by omega);rw[hu];refine⟨b2,b1.trans a2,λx hx hne=>(b3 x hx hne).trans (a3 x hx hne),b4,b5.trans a5,?_⟩;rw[b6,a6,a2,b1Y]
 obtain⟨c1,c2,c3,c4,c5,c6⟩:=key N.dies (j7 _) _ rfl;refine⟨c1,c2,λb hb=>?_⟩
 by_cases e:b=n
 ·subst e;refine⟨c4,c5,?_⟩;show(((List.range N.dies).foldl (ofD N b) t).at_ b).used=_;rw[c6,i9 (by omega)];rfl
 ·obtain⟨a1,a2,a3⟩:=h.at_ b hb;have:=c3 b hb e;show(((List.range N.dies).foldl (ofD N n) t).at_ b).bad=0/\(((List.range N.dies).foldl (ofD N n) t).at_ b).held=false/\(((List.range N.dies).foldl (ofD N n) t).at_ b).used=_;rw[this];refine⟨a1,a2,a3.trans ?_⟩
  by_cases hlt:b<n
  ·rw[i9 hlt,i9 (by omega)]
  ·rw[s8 hlt,s8 (by omega)]
theorem of_spec (hN:N.Ok):L.set (Tl.of N).dead=true/\(∀e:Int,L.has (Tl.of N).dead e=N.deadAt e)/\∀b:Nat,b<N.blocks->((Tl.of N).at_ b).bad=0/\((Tl.of N).at_ b).held=false/\((Tl.of N).at_ b).used=a4o (Tl.of N).dead N b N.dies:=by
 have hg:=hN.bd16;obtain⟨s1,s2,s3,s4,s5⟩:=a9I (N:=N) (t:=Tl.new N.dies N.blocks N.pages) rfl (by omega) (by show L.set 0=true;decide);have h0:OfS N (Dv.seeDead N (Tl.new N.dies N.blocks N.pages)) 0 (Dv.seeDead N (Tl.new N.dies N.blocks N.pages)):=by
  refine⟨(Tl.Fit.new N).seeDead,rfl,λb hb=>?_⟩;have:(Dv.seeDead N (Tl.new N.dies N.blocks N.pages)).at_ b=Sb.zero:=by
   unfold Tl.at_;rw[s3];show(List.replicate N.blocks Sb.zero).getD _ Sb.zero=Sb.zero;rw[f9,D8];split<;>rfl
  rw[this];exact⟨rfl,rfl,rfl⟩
 have key:∀n,n<=N.blocks->OfS N (Dv.seeDead N (Tl.new N.dies N.blocks N.pages)) n ((List.range n).foldl (ofB N) (Dv.seeDead N (Tl.new N.dies N.blocks N.pages))):=by
  intro n
  induction n with
  | zero=>intro _;exact h0
  | succ n ih=>
   intro hn;rw[x6,A7];exact ofB_spec (ih (by omega)) (by omega) s1 (by omega)
 have hk:=key N.blocks (j7 _);have hof:Tl.of N=(List.range N.blocks).foldl (ofB N) (Dv.seeDead N (Tl.new N.dies N.blocks N.pages)):=rfl;rw[<- hof]at hk;refine⟨by rw[hk.dead];exact s1,λe=>?_,λb hb=>?_⟩
 ·rw[hk.dead,s2];show(L.has 0 e||N.deadAt e)=N.deadAt e;rw[L.has_zero,C0]
 ·obtain⟨a1,a2,a3⟩:=hk.at_ b hb;refine⟨a1,a2,?_⟩;rw[a3,hk.dead,i9 hb,s7]
end Tl
theorem V.stand_max:∀(n:Nat) (l:List Fnd),l.length=n->∀g∈l,g.en.seq<=(V.standOf l).1.en.seq/\(g.en.seq=(V.standOf l).1.en.seq->g.whole=true->(V.standOf l).1.whole=true)
 | 0,l,hl,g,hg=>by rw[l9 hl]at hg;cases hg
 | n+1,l,hl,g,hg=>by
  obtain⟨l',x,rfl⟩:∃l' x,l=l'++[x]:=⟨l.dropLast,l.getLast (λe=>by rw[e]at hl;cases hl),(a0x _).symm⟩;have hl':l'.length=n:=by simpa using hl
  have ih:=V.stand_max n l' hl';rw[V.standOf_snoc];split
  ·rename_i hc;show g.en.seq<=x.en.seq/\(g.en.seq=x.en.seq->g.whole=true->x.whole=true);rcases List.mem_append.1 hg with hg | hg
   ·rcases hc with hc | hc
    ·exfalso
     rw[V.standOf_true l' (λe=>by rw[e]at hg;cases hg)]at hc;cases hc
    ·have h1:=ih g hg;unfold V.behind at hc;split at hc
     ·have hc:=a2p hc;exact⟨by omega,λe=>by omega⟩
     ·rename_i heq;have heq:(V.standOf l').1.en.seq=x.en.seq:=H4 λh=>heq h;rw[i4]at hc;exact⟨by omega,λ_ _=>hc.1⟩
   ·rw[I3]at hg;rw[hg];exact⟨V6 _,λ_ h=>h⟩
  ·rename_i hc;rcases List.mem_append.1 hg with hg | hg
   ·exact ih g hg
   ·rw[I3]at hg;rw[hg];have hb:V.behind (V.standOf l').1 x=false:=by
     cases h:V.behind (V.standOf l').1 x with
     | false=>rfl
     | true=>exact absurd (.inr h) hc
    unfold V.behind at hb;split at hb
    ·rename_i hne;have hb:=of_decide_eq_false hb;exact⟨by omega,λe=>absurd e.symm hne⟩
    ·rename_i heq;have heq:(V.standOf l').1.en.seq=x.en.seq:=H4 λh=>heq h;refine⟨by omega,λ_ hw=>?_⟩;rw[hw,s7]at hb;simpa using hb
theorem V.mem_all {N:Nand} {f:Fnd}:f∈V.all N↔∃b r:Nat,b<N.blocks/\r<N.pages/\f∈R.all N b r:=by
 unfold V.all;simp only[J1,I4];constructor
 ·rintro⟨b,hb,r,hr,hf⟩;exact⟨b,r,hb,hr,hf⟩
 ·rintro⟨b,r,hb,hr,hf⟩;exact⟨b,hb,r,hr,hf⟩
theorem V.nextOf_ge:∀(n:Nat) (l:List Fnd),l.length=n->∀f∈l,f.en.seq+1<=V.nextOf l
 | 0,l,hl,g,hg=>by rw[l9 hl]at hg;cases hg
 | n+1,l,hl,g,hg=>by
  obtain⟨l',x,rfl⟩:∃l' x,l=l'++[x]:=⟨l.dropLast,l.getLast (λe=>by rw[e]at hl;cases hl),(a0x _).symm⟩;have hl':l'.length=n:=by simpa using hl
  rw[V.nextOf_snoc];rcases List.mem_append.1 hg with hg | hg
  ·have:=V.nextOf_ge n l' hl' g hg;omega
  ·rw[I3]at hg;rw[hg];omega
theorem b3U (N:Nand) {n:Nat} (hn:n<=65536) (i:Nat):Tb.look (V.scan N n).tb.at_ (i:Int)=if i<n/\(V.standOf (V.of (V.all N) i)).2=true/\Tb.ok (Tb.new n) (V.standOf (V.of (V.all N) i)).1.en=true then some ⟨(V.standOf (V.of (V.all N) i)).1.block,(V.standOf (V.of (V.all N) i)).1.row,(V.standOf (V.of (V.all N) i)).1.slot,(V.standOf (V.of (V.all N) i)).1.mask,(V.standOf (V.of (V.all N) i)).1.en.seq,(V.standOf (V.of (V.all N) i)).1.en.role⟩else none:=by
 have hsz:V.size (n:Int)=n:=by unfold V.size;omega
 have key:=V.goS_look N (V.all N) n n i;rw[<- key];show Tb.look (V.goS N (V.all N) n (V.size n)).tb.at_ (i:Int)=_;rw[hsz]
theorem a8Z {α β:Type} (g:Int->β):∀(l:List (Int×α)) (i:Int),Tb.look (l.map λx=>(x.1,g x.1)) i=if(Tb.look l i).isSome=true then some (g i)else none
 | [],i=>rfl
 | x::l,i=>by
  rw[o0];unfold Tb.look
  by_cases h:i=x.1
  ·rw[i3 h,i3 h,h];rfl
  ·rw[g7 h,g7 h];exact a8Z g l i
theorem b1A {fd:Int} {N:Nand} (h3:3<=N.dies):∃i:Nat,i<N.dies/\(i:Int)≠fd:=by
 by_cases h:fd=0
 ·exact⟨1,by omega,by omega⟩
 ·exact⟨0,by omega,λe=>h e.symm⟩
namespace GI
variable {fd : Int} {W : List (Int × En)} {S : Dv} {k m : Nat}
theorem stand (h:GI fd W S) (hO:S.Ok k m) {i:Int} {a:AtV} (ha:Tb.look S.T.at_ i=some a):
  ∃w f,Tb.look W i=some w/\V.standOf (V.of (V.all S.N) i)=(f,true)/\f∈V.all S.N/\f.en={w with seq:=a.seq}/\f.block=a.block/\f.row=a.row/\f.mask=a.mask/\(∃l,Full fd S.N a.block a.row a.mask l/\∃k:Nat,f.slot=k/\k<l.length/\l.getD k En.zero=f.en)/\f.whole=((M.look S.N (G.parity a.mask a.block a.row) a.block a.row).2==1):=by
 have hg:=hO.gd.ok.bd16;have hoff:=h.inv.lit.off;obtain⟨w,hw⟩:∃w,Tb.look W i=some w:=by
  cases hw:Tb.look W i with
  | none=>rw[h.hd.none hw]at ha;cases ha
  | some w=>exact⟨w,rfl⟩
 obtain⟨l,g1,g2,g3,g4,g5,g6⟩:=(h.inv.st i a ha).row;obtain⟨_,a',ha',hrd⟩:=h.hd.each i w hw;rw[ha]at ha';injection ha' with ha';subst ha';have hslot:((a.slot.toNat:Nat):Int)=a.slot:=M5 g2;have hle:l.getD a.slot.toNat En.zero={w with seq:=a.seq}:=by
  have:=g1.read hoff h.inv.dead g3;rw[hslot,hrd]at this;injection this with this _;exact this.symm
 have hwk:=h.wok i w hw;have hr3:(l.getD a.slot.toNat En.zero).role≠3:=by
  rw[hle];show w.role≠3;rcases hwk.2.role with e | ⟨e | e,_⟩<;>omega
 have hmk:=h.msk i a ha;obtain⟨i0,hi0,hne0⟩:=b1A (fd:=fd) hg.1.1;have hm0:=hmk.all i0 hi0 hne0;obtain⟨f0,f1,f2,f3,f4⟩:=g1.found2 hoff h.inv.dead ⟨i0,hne0,hm0⟩ g3 hr3;have hblk:=g1.is.blk;have hrow:=g1.is.row;have hf0:f0∈V.all S.N:=V.mem_all.2 ⟨a.block.toNat,a.row.toNat,by omega,by omega,by rw[M5 hblk.1,M5 hrow.1];exact f1⟩;have hf0L:f0∈V.of (V.all S.N) i:=List.mem_filter.2 ⟨hf0,by rw[f2,g4];simp⟩;have hne:V.of (V.all S.N) i≠[]:=λe=>by rw[e]at hf0L;cases hf0L
 have htr:=V.standOf_true _ hne;obtain⟨f,hf⟩:∃f,(V.standOf (V.of (V.all S.N) i)).1=f:=⟨_,rfl⟩;have hst:V.standOf (V.of (V.all S.N) i)=(f,true):=by rw[<- hf,<- htr]
 have hfL:f∈V.of (V.all S.N) i:=by rw[<- hf];exact V.standOf_mem htr
 obtain⟨hfa,hfi⟩:=List.mem_filter.1 hfL;have hfi:f.en.lpn=i:=a6c hfi;have hmax:=(V.stand_max _ _ rfl f0 hf0L).1;rw[hf,f2,g5]at hmax;obtain⟨b,r,hb,hr,hfr⟩:=V.mem_all.1 hfa;obtain⟨e1,e2,_⟩:=a5y hfr;rcases(h.dsc b r hb hr).fnd hoff hg.1 hfr with⟨a',ha',hlt⟩ | ⟨⟨w',a',hw',ha',hcs⟩,hmf,l',hev,k',hk',hsl,hen,hrd',hwh⟩
 ·rw[hfi,ha]at ha';injection ha' with ha';subst ha';omega
 ·rw[hfi,ha]at ha';injection ha' with ha';subst ha';rw[hfi,hw]at hw';injection hw' with hw';subst hw';rcases hcs with hlt | ⟨c1,c2,c3,c4,c5⟩
  ·omega
  ·rw[<- c2,<- c3]at hev hrd' hwh;have hm0':L.has f.mask (i0:Nat)=true:=by
    have hall:=L.all_has S.N.dies (by omega);rcases hmf with e | ⟨d,e,hd,e'⟩
    ·rw[e,hall,i9 (by omega),i9 (by omega)];rfl
    ·rw[e',L.without_has (L.set_all S.N.dies (by omega)) (by omega),hall,i9 (by omega),i9 (by omega),s8 (by omega)];rfl
   have hmask:=g1.mask_eq hoff h.inv.dead hne0 hm0 hm0' hev;have hlen:l'.length=l.length:=by
    have x1:=hev.is.len;have x2:=g1.is.len;rw[hmask]at x1;omega
   refine⟨w,f,hw,hst,hfa,?_,by rw[e1,c2],by rw[e2,c3],hmask,⟨l,g1,k',hsl,by omega,?_⟩,?_⟩
   ·have hfe:f.en=⟨f.en.lpn,f.en.seq,f.en.role,f.en.data⟩:=rfl;rw[hfe,hfi,c1,c4,c5,<- hwk.1]
   ·have:=g1.read hoff h.inv.dead (i:=k') (by omega);rw[hmask,hsl,this]at hrd';injection hrd' with hrd' _
   ·rw[hwh];unfold gOf;rw[a0R,hmask]
theorem stand_none (h:GI fd W S) (hO:S.Ok k m) {i:Int} (ha:Tb.look S.T.at_ i=none):(V.standOf (V.of (V.all S.N) i)).2=false:=by
 have hg:=hO.gd.ok.bd16;cases htr:(V.standOf (V.of (V.all S.N) i)).2 with
 | false=>rfl
 | true=>
  exfalso
  have hfL:=V.standOf_mem htr;obtain⟨hfa,hfi⟩:=List.mem_filter.1 hfL;have hfi:=a6c hfi;obtain⟨b,r,hb,hr,hfr⟩:=V.mem_all.1 hfa;rcases(h.dsc b r hb hr).fnd h.inv.lit.off hg.1 hfr with⟨a',ha',_⟩ | ⟨⟨w',a',hw',ha',_⟩,_⟩
  ·rw[hfi,ha]at ha';cases ha'
  ·rw[hfi,ha]at ha';cases ha'
theorem table (h:GI fd W S) (hO:S.Ok k m) (hlog:S.T.logical=(lgN S.N.dies S.N.blocks S.N.pages:Int)) (i:Int):
  (Tb.look S.T.at_ i=none->Tb.look (Dv.mt0 S.N).T.at_ i=none)/\
  ∀a,Tb.look S.T.at_ i=some a->∃w f a',Tb.look W i=some w/\V.standOf (V.of (V.all S.N) i)=(f,true)/\f∈V.all S.N/\f.en={w with seq:=a.seq}/\Tb.look (Dv.mt0 S.N).T.at_ i=some a'/\a'=⟨a.block,a.row,f.slot,a.mask,a.seq,w.role⟩/\(∃l,Full fd S.N a.block a.row a.mask l/\∃k:Nat,f.slot=k/\k<l.length/\l.getD k En.zero=f.en)/\f.whole=((M.look S.N (G.parity a.mask a.block a.row) a.block a.row).2==1):=by
 have h200:=a2C hO.gd.ok;have hsl:∀j:Nat,Tb.look (Dv.mt0 S.N).T.at_ (j:Int)=_:=λj=>b3U S.N (n:=lgN S.N.dies S.N.blocks S.N.pages) (by omega) j;have htOk:(Dv.mt0 S.N).T.Ok:=(Dv.Ok.mt0 hO.gd).T;have hlog0:=Dv.mt0_log hO.gd;constructor
 ·intro hn;cases hx:Tb.look (Dv.mt0 S.N).T.at_ i with
  | none=>rfl
  | some x=>
   exfalso
   have hr:=htOk.rng _ (Tb.look_mem hx);rw[hlog0]at hr;obtain⟨j,rfl⟩:=i6 hr.1;rw[hsl j,h.stand_none hO hn,g7 (by simp)]at hx;cases hx
 ·intro a ha;have hr:=hO.T.rng _ (Tb.look_mem ha);rw[hlog]at hr;obtain⟨j,rfl⟩:=i6 hr.1;obtain⟨w,f,h1,h2,h3,h4,h5,h6,h7,h8,h9⟩:=h.stand hO ha;have hwk:=h.wok _ w h1;have hx:=hsl j;rw[h2]at hx;dsimp only at hx;rw[h4,h5,h6,h7,i3 ⟨by omega,rfl,by
   unfold Tb.ok;show(!(decide (w.lpn<0)||decide (w.lpn>=min (max ((lgN S.N.dies S.N.blocks S.N.pages:Nat):Int) 0) 65536)||(w.role !=1&&w.role !=2&&w.role !=4)))=true;rw[hwk.1,s8 (by omega),s8 (by omega)];rcases hwk.2.role with e | ⟨e | e,_⟩<;>rw[e]<;>rfl⟩]at hx
  exact⟨w,f,_,h1,h2,h3,h4,hx,rfl,h8,h9⟩
theorem mt0 (h:GI fd W S) (hO:S.Ok k m) (hlog:S.T.logical=(lgN S.N.dies S.N.blocks S.N.pages:Int)):
  ∃W',(∀i,Tb.look W' i=Tb.look W i)/\W'.length<=W.length/\GI fd W' (Dv.mt0 S.N)/\(∀b,(Dv.mt0 S.N).t.has b=true->((Dv.mt0 S.N).t.at_ b).held=false)/\∀i a',Tb.look (Dv.mt0 S.N).T.at_ i=some a'->∃a,Tb.look S.T.at_ i=some a/\a'.block=a.block:=by
 have hg:=hO.gd.ok.bd16;have h200:=a2C hO.gd.ok;have hO0:(Dv.mt0 S.N).Ok k m:=Dv.Ok.mt0 hO.gd;have hlog0:=Dv.mt0_log hO.gd;obtain⟨t1,t2,t3⟩:=Tl.of_spec hO.gd.ok;have hhas:∀b,(Dv.mt0 S.N).t.has b=true->∃j:Nat,b=(j:Int)/\j<S.N.blocks:=λb hb=>by
  have hb:=Tl.has_iff.1 hb;have hb2:=hO0.t.b;have hb3:(Dv.mt0 S.N).N.blocks=S.N.blocks:=rfl;obtain⟨j,rfl⟩:=i6 hb.1;exact⟨j,rfl,by omega⟩
 have hdd:∀d:Nat,(d:Int)≠fd->L.has (Tl.of S.N).dead (d:Nat)=false:=λd hd=>by
  rw[t2];unfold Nand.deadAt;rw[j4,h.inv.dead d hd,Bool.and_false]
 have hall:=λi=>h.table hO hlog i;have hsome:∀i a',Tb.look (Dv.mt0 S.N).T.at_ i=some a'->∃a w f,Tb.look S.T.at_ i=some a/\Tb.look W i=some w/\f∈V.all S.N/\f.en={w with seq:=a.seq}/\a'=⟨a.block,a.row,f.slot,a.mask,a.seq,w.role⟩/\∃l,Full fd S.N a.block a.row a.mask l/\∃k:Nat,f.slot=k/\k<l.length/\l.getD k En.zero=f.en:=λi a' ha'=>by
  cases ha:Tb.look S.T.at_ i with
  | none=>rw[(hall i).1 ha]at ha';cases ha'
  | some a=>
   obtain⟨w,f,a2,h1,_,h3,h4,h5,h6,h7,_⟩:=(hall i).2 a ha;rw[h5]at ha';injection ha' with ha';exact⟨a,w,f,rfl,h1,h3,h4,ha'.symm.trans h6,h7⟩
 let W':List (Int×En):=(Dv.mt0 S.N).T.at_.map λx=>(x.1,(Tb.look W x.1).getD En.zero)
 have hW':∀i,Tb.look W' i=Tb.look W i:=λi=>by
  show Tb.look ((Dv.mt0 S.N).T.at_.map λx=>(x.1,(Tb.look W x.1).getD En.zero)) i=_;rw[a8Z (λi=>(Tb.look W i).getD En.zero)];cases hx:Tb.look (Dv.mt0 S.N).T.at_ i with
  | some a'=>
   obtain⟨a,w,f,_,h2,_⟩:=hsome i a' hx;rw[h2];rfl
  | none=>
   rw[g7 (by simp)];cases hw:Tb.look W i with
   | none=>rfl
   | some w=>
    obtain⟨_,a,ha,_⟩:=h.hd.each i w hw;obtain⟨_,_,a2,_,_,_,_,h5,_⟩:=(hall i).2 a ha;rw[hx]at h5;cases h5
 have hinv:Inv fd (Dv.mt0 S.N):=by
  refine⟨h.inv.lit,h.inv.dead,h.inv.plan,h.inv.flags,⟨t1,λd hd=>?_⟩,λb hb=>?_, .inl rfl,λb hb hu d hd=>?_,λi a' ha'=>?_⟩
  ·have hd:L.has (Tl.of S.N).dead d=true:=hd;obtain⟨d',rfl,_⟩:=L.has_rng hd;exact H4 λhne=>by rw[hdd d' hne]at hd;cases hd
  ·obtain⟨j,rfl,hj⟩:=hhas b hb;show L.set ((Tl.of S.N).at_ j).bad=true/\∀d:Int,L.has ((Tl.of S.N).at_ j).bad d=true->d=fd;rw[(t3 j hj).1];exact⟨by decide,λd hd=>by rw[L.has_zero]at hd;cases hd⟩
  ·obtain⟨j,rfl,hj⟩:=hhas b hb;have hu:((Tl.of S.N).at_ j).used=false:=hu;rw[(t3 j hj).2.2]at hu;have hmk:=(R4 (t:=(Dv.mt0 S.N).t) (b:=j) (by have:=hO0.t.d;have h3:(Dv.mt0 S.N).N.dies=S.N.dies:=rfl;omega) hb t1 (by show L.set ((Tl.of S.N).at_ j).bad=true;rw[(t3 j hj).1];decide)).2 d;rw[hmk]at hd;simp only[i4,d7,i7]at hd;have hdl:d<S.N.dies:=by have:=hO0.t.d;have h3:(Dv.mt0 S.N).N.dies=S.N.dies:=rfl;omega
   unfold a4o at hu;rw[a0K]at hu;have:=hu d (List.mem_range.2 hdl);have hdf:L.has (Tl.of S.N).dead (d:Nat)=false:=hd.1.2;rw[hdf]at this;show(S.N.blk d ((j:Nat):Int).toNat).cells=[];rw[j4];simpa using this
  ·obtain⟨a,w,f,h1,h2,h3,h4,h5,l,h6,kk,h7,h8,h9⟩:=hsome i a' ha';subst h5;have hst:=h.inv.st i a h1;have hwk:=h.wok i w h2;refine⟨⟨l,h6,by show(0:Int)<=f.slot;omega,?_,?_,?_,?_⟩,?_,λe=>?_,⟨hst.seq.1,?_⟩⟩
   ·show f.slot.toNat<l.length;omega
   ·show(l.getD f.slot.toNat En.zero).lpn=i;rw[h7,j4,h9,h4];exact hwk.1
   ·show(l.getD f.slot.toNat En.zero).seq=a.seq;rw[h7,j4,h9,h4]
   ·show(l.getD f.slot.toNat En.zero).role=w.role;rw[h7,j4,h9,h4]
   ·have hblk:=h6.is.blk;show((Tl.of S.N).at_ a.block).used=true;obtain⟨j,hj⟩:=i6 hblk.1;rw[hj,(t3 j (by omega)).2.2];obtain⟨i0,hi0,hne0⟩:=b1A (fd:=fd) hg.1.1;obtain⟨x,hx,hxi⟩:=h6.is.on ((h.msk i a h1).all i0 hi0 hne0);obtain⟨tt,ht⟩:=h6.good x hx (by rw[hxi];exact hne0);unfold a4o;rw[a0c];refine⟨i0,List.mem_range.2 hi0,?_⟩;rw[hdd i0 hne0];have hne:(S.N.blk i0 j).cells≠[]:=λe=>by
     unfold Nand.pageAt at ht;rw[hxi,hj,j4,j4,e]at ht;cases ht
    rw[i9 hne];rfl
   ·have hblk:=h6.is.blk;have e:a.block= -1:=e;omega
   ·have hnx:=V.nextOf_ge _ _ rfl f h3;have hq:f.en.seq=a.seq:=by rw[h4]
    show a.seq<max (V.nextOf (V.all S.N)) 1;omega
 have hhd:Hd (Dv.mt0 S.N) W':=by
  refine⟨?_,λi e he=>?_⟩
  ·show(Dv.mt0 S.N).T.at_.map (·.1)=((Dv.mt0 S.N).T.at_.map λx=>(x.1,(Tb.look W x.1).getD En.zero)).map (·.1);rw[a9A];rfl
  ·rw[hW']at he;obtain⟨h1,a,h2,h3⟩:=h.hd.each i e he;obtain⟨w,f,a',g1,g2,g3,g4,g5,g6,⟨l2,q1,kk2,q2,q3,q4⟩,_⟩:=(hall i).2 a h2;rw[he]at g1;injection g1 with g1;subst g1;subst g6;refine⟨h1,_,g5,?_⟩;show R.read S.N a.block a.row f.slot a.mask=({e with seq:=a.seq},0);rw[q2,q1.read h.inv.lit.off h.inv.dead q3,q4,g4]
 refine⟨W',hW',?_,⟨hinv,hhd,λi e he=>h.wok i e (by rw[<- hW'];exact he),λi a' ha'=>?_,λb r hb hr=>(h.dsc b r hb hr).mono (λe ⟨w,a,x1,x2,x3⟩=>?_) λe ⟨a,x1,x2⟩=>?_⟩,λb hb=>?_,λi a' ha'=>?_⟩
 ·have h1:=a2d (K:=(Dv.mt0 S.N).T.at_.map (·.1)) (M:=W.map (·.1)) hO0.T.keys λi hi=>by
   obtain⟨x,hx,rfl⟩:=List.mem_map.1 hi;obtain⟨a,w,f,g1,_⟩:=hsome x.1 x.2 (a4C hO0.T hx);rw[<- h.hd.keys];exact List.mem_map.2 ⟨_,Tb.look_mem g1,rfl⟩
  simpa[W']using h1
 ·obtain⟨a,w,f,h1,_,_,_,h5,_⟩:=hsome i a' ha';rw[h5];exact h.msk i a h1
 ·obtain⟨w',f,a',g1,g2,g3,g4,g5,g6,_⟩:=(hall _).2 a x2;rw[x1]at g1;injection g1 with g1;subst g1;subst g6;exact⟨w,_,by rw[hW'];exact x1,g5,x3⟩
 ·obtain⟨w',f,a',g1,g2,g3,g4,g5,g6,_⟩:=(hall _).2 a x1;subst g6;exact⟨_,g5,x2⟩
 ·obtain⟨j,rfl,hj⟩:=hhas b hb;exact(t3 j hj).2.1
 ·obtain⟨a,w,f,h1,_,_,_,h5,_⟩:=hsome i a' ha';exact⟨a,h1,by rw[h5]⟩
end GI
def cur (W:List (Int×En)) (L:List En) (i:Int):List UInt8:=match L.find? (λx=>x.lpn==i)with
 | some e=>e.data
 | none=>match Tb.look W i with
  | some e=>e.data
  | none=>zeros16
structure FI (fd:Int) (W:List (Int×En)) (lg:Nat) (F:Fv):Prop where
 inv:Inv fd F.S
 hd:Hd F.S W
 wok:WOk W
 wr:∀i e,Tb.look W i=some e->e.role≠4
 log:F.S.T.logical=(lg:Int)
 lgn:F.lg=(lg:Int)
 lg2:lg<=200
 des:∀e∈F.L,FitR e/\e.role≠4/\e.lpn<(lg:Int)
 nd:(F.L.map (·.lpn)).Nodup
 off:F.off=false
theorem find_none {L:List En} {i:Int}:L.find? (λx=>x.lpn==i)=none↔i∉L.map (·.lpn):=by
 rw[List.find?_eq_none];constructor
 ·intro h hm;obtain⟨x,hx,e⟩:=List.mem_map.1 hm;exact h x hx (by simp[e])
 ·intro h x hx hb;exact h (List.mem_map.2 ⟨x,hx,by simpa using hb⟩)
theorem b4P {L:List En} (hnd:(L.map (·.lpn)).Nodup) {e:En} (he:e∈L):L.find? (λx=>x.lpn==e.lpn)=some e:=by
 induction L with
 | nil=>cases he
 | cons x L ih=>
  simp only[o0,List.nodup_cons]at hnd;rw[List.find?_cons];rcases List.mem_cons.1 he with rfl | he
  ·simp
  ·have:(x.lpn==e.lpn)=false:=by
    rw[n7];intro e2;exact hnd.1 (by rw[e2];exact M4 he)
   rw[this];exact ih hnd.2 he
theorem b4X {L:List En} (hnd:(L.map (·.lpn)).Nodup) (n:Nat):Z6 L (L.take n)=L.drop n:=by
 unfold Z6;have hsp:L=L.take n++L.drop n:=(C5 n L).symm;have hnd2:=hnd;rw[hsp,x7,K6]at hnd2;obtain⟨_,_,hdis⟩:=hnd2
 conv=>lhs;arg 2;rw[hsp]
 rw[Q7];have h1:(L.take n).filter (λx=>!((L.take n).any λe=>e.lpn==x.lpn&&e.seq==x.seq))=[]:=by
  rw[List.filter_eq_nil_iff];intro x hx;have:((L.take n).any λe=>e.lpn==x.lpn&&e.seq==x.seq)=true:=List.any_eq_true.2 ⟨x,hx,by simp⟩;rw[this];simp
 have h2:(L.drop n).filter (λx=>!((L.take n).any λe=>e.lpn==x.lpn&&e.seq==x.seq))=L.drop n:=by
  rw[U8];intro x hx;have:((L.take n).any λe=>e.lpn==x.lpn&&e.seq==x.seq)=false:=by
   rw[<- Bool.not_eq_true,a0c];rintro⟨e,he,hb⟩;simp only[i4,y6]at hb;exact hdis _ (M4 he) _ (M4 hx) hb.1
  rw[this];rfl
 rw[h1,h2];rfl
theorem b7H {W:List (Int×En)} {L:List En} (hnd:(L.map (·.lpn)).Nodup) (n:Nat) (hn:n<=L.length) (i:Int):cur (a0Z W L n) (L.drop n) i=cur W L i:=by
 have hdisj:∀a b,a<b->b<n->(L.getD a En.zero).lpn≠(L.getD b En.zero).lpn:=λa b hab hb e=>by
  have g1:a<L.length:=by omega
  have g2:b<L.length:=by omega
  have h3:(L.map (·.lpn))[a]? =(L.map (·.lpn))[b]?:=by
   rw[j5,j5,d6 g1,d6 g2];rw[f9,f9,d6 g1,d6 g2]at e;exact congrArg some e
  have:=(R5 (by rw[n5];exact g1) hnd).1 h3;omega
 obtain⟨w1,w2⟩:=a0A (W:=W) (l:=L) n hdisj;have hsp:L=L.take n++L.drop n:=(C5 n L).symm;have hnd2:=hnd;rw[hsp,x7,K6]at hnd2;obtain⟨hn1,hn2,hdis⟩:=hnd2
 by_cases hi:i∈(L.take n).map (·.lpn)
 ·obtain⟨e,he,rfl⟩:=List.mem_map.1 hi;have hf:=b4P hnd (D7 he);have hnone:(L.drop n).find? (λx=>x.lpn==e.lpn)=none:=find_none.2 λhm=>hdis _ hi _ hm rfl;obtain⟨j,hj,hje⟩:=List.mem_iff_getElem.1 he;rw[m9]at hj;have hge:L.getD j En.zero=e:=by
   rw[f9,d6 (by omega),j6,<- hje,Y6]
  have hl:=w1 j (by omega);rw[hge]at hl;unfold cur;rw[hnone,hf];dsimp only;rw[hl]
 ·have h1:(L.take n).find? (λx=>x.lpn==i)=none:=find_none.2 hi;have h2:L.find? (λx=>x.lpn==i)=(L.drop n).find? (λx=>x.lpn==i):=by
   conv=>lhs;rw[hsp]
   rw[List.find?_append,h1];rfl
  have h3:Tb.look (a0Z W L n) i=Tb.look W i:=w2 i λj hj e=>hi (List.mem_map.2 ⟨L.getD j En.zero,by
   rw[f9,d6 (by omega),j6];exact List.mem_iff_getElem.2 ⟨j,by rw[m9];omega,Y6 ..⟩,e⟩)
  unfold cur;rw[h2,h3]
theorem b2S {W:List (Int×En)} {L:List En} (hW:WOk W) (hr:∀i e,Tb.look W i=some e->e.role≠4) (hL:∀e∈L,FitR e/\e.role≠4):∀n,n<=L.length->WOk (a0Z W L n)/\∀i e,Tb.look (a0Z W L n) i=some e->e.role≠4
 | 0,_=>⟨hW,hr⟩
 | n+1,hn=>by
  obtain⟨h1,h2⟩:=b2S hW hr hL n (by omega);have hm:=hL _ (X3 (show n<L.length by omega));rw[a1j];refine⟨h1.put hm.1,λi e he=>?_⟩;rw[Tb.look_put1]at he;split at he
  ·injection he with he;rw[<- he];exact hm.2
  ·exact h2 i e he
namespace FI
variable {fd : Int} {W : List (Int × En)} {lg k m : Nat} {F : Fv}
theorem ask (h:FI fd W lg F):F.ask=F:=by
 unfold Fv.ask;rw[h.inv.lit.off,h.off];have:=h.off;cases F;dsimp only at this;rw[this];rfl
theorem len (h:FI fd W lg F):F.L.length<=lg:=by
 have h1:=a2d (K:=F.L.map (·.lpn)) (M:=(List.range lg).map λi:Nat=>(i:Int)) h.nd λx hx=>by
  obtain⟨e,he,rfl⟩:=List.mem_map.1 hx;obtain⟨d1,_,d3⟩:=h.des e he;have:=d1.lpn;exact List.mem_map.2 ⟨e.lpn.toNat,List.mem_range.2 (by omega),by omega⟩
 simpa using h1
theorem get (h:FI fd W lg F) (i:Int):F.get i=(cur W F.L i,0):=by
 unfold Fv.get cur a2m;cases hf:F.L.find? (λx=>x.lpn==i)with
 | some e=>rfl
 | none=>
  dsimp only;rw[g7 m6];cases hw:Tb.look W i with
  | none=>rw[h.hd.none hw]
  | some e=>
   obtain⟨h1,a,ha,hr⟩:=h.hd.each i e hw;obtain⟨y,hy,_,_,hyr⟩:=h.inv.read ha;have hwe:=h.wok i e hw;rw[hr]at hy;have her:e.role=a.role:=by injection hy with hy;rw[<- hyr,<- hy]
   have h4:=h.wr i e hw;rw[ha];dsimp only;rcases hwe.2.role with r | ⟨r | r,hz⟩
   ·rw[g7 (by omega),g7 (by omega),hr];dsimp only;rw[g7];rintro(x | x | x)
    ·exact x rfl
    ·exact x hwe.1
    ·exact x rfl
   ·rw[i3 (by omega),hz]
   ·exact absurd r h4
theorem read (h:FI fd W lg F) (i:Int):F.read i=if i<0\/i>=(lg:Int)then(F,zeros16,3)else(F,cur W F.L i,0):=by
 unfold Fv.read;rw[h.ask,h.off,g7 m6,h.lgn,h.get]
end FI
theorem b1C {L:List En} {i j:Int} (h:i≠j):(L.filter λx=>!(x.lpn==j)).find? (λx=>x.lpn==i)=L.find? (λx=>x.lpn==i):=by
 induction L with
 | nil=>rfl
 | cons x L ih=>
  rw[V8]
  by_cases e:x.lpn=j
  ·have h1:(!(x.lpn==j))=false:=by simp[e]
   have h2:(x.lpn==i)=false:=by rw[n7];omega
   rw[h1,g7 m6,ih,List.find?_cons,h2]
  ·have h1:(!(x.lpn==j))=true:=by simp[e]
   rw[h1,i3 rfl,List.find?_cons,List.find?_cons,ih]
theorem b9F (W:List (Int×En)) (L:List En) (e:En) (i:Int):cur W (a2l L e) i=if i=e.lpn then e.data else cur W L i:=by
 unfold cur a2l;rw[List.find?_append]
 by_cases h:i=e.lpn
 ·subst h;have h1:(L.filter λx=>!(x.lpn==e.lpn)).find? (λx=>x.lpn==e.lpn)=none:=by
   rw[List.find?_eq_none];intro x hx hb;have:=(List.mem_filter.1 hx).2;rw[hb]at this;cases this
  rw[h1,i3 rfl];simp
 ·rw[b1C h,g7 h];have h2:[e].find? (λx=>x.lpn==i)=none:=by
   rw[List.find?_eq_none];intro x hx hb;simp at hx;subst hx;exact h (a6c hb).symm
  rw[h2,Option.or_none]
namespace FI
variable {fd : Int} {W : List (Int × En)} {lg k m : Nat} {F : Fv}
theorem put (h:FI fd W lg F) {e:En} (he:FitR e/\e.role≠4/\e.lpn<(lg:Int)):FI fd W lg (F.put e)/\∀i,cur W (F.put e).L i=if i=e.lpn then e.data else cur W F.L i:=by
 refine⟨⟨h.inv,h.hd,h.wok,h.wr,h.log,h.lgn,h.lg2,λx hx=>?_,?_,h.off⟩,λi=>b9F W F.L {e with seq:=F.nx} i⟩
 ·have hx:x∈(F.L.filter λy:En=>!(y.lpn==e.lpn))++[({e with seq:=F.nx}:En)]:=hx;rcases List.mem_append.1 hx with hx | hx
  ·exact h.des x (List.mem_filter.1 hx).1
  ·simp at hx;rw[hx];exact⟨⟨he.1.lpn,he.1.role,he.1.len⟩,he.2.1,he.2.2⟩
 ·show(((F.L.filter λy:En=>!(y.lpn==e.lpn))++[({e with seq:=F.nx}:En)]).map (·.lpn)).Nodup;rw[x7,K6];refine⟨a5a ((a4h (p:=λx:En=>!(x.lpn==e.lpn)) (l:=F.L)).map (·.lpn)) h.nd,by simp,λa ha b hb hab=>?_⟩;obtain⟨x,hx,rfl⟩:=List.mem_map.1 ha;simp at hb;have:=(List.mem_filter.1 hx).2;rw[hab,hb]at this;simp at this
def costW:Nat:=Dv.costM+8*Dv.fuel
end FI
theorem b9J (D B P:Nat):V.all (Nand.new D B P)=[]:=by
 unfold V.all;rw[List.flatMap_eq_nil_iff];intro b _;rw[List.flatMap_eq_nil_iff];intro r _;refine b5d λd=>?_;have:=b2u (N:=Nand.new D B P) (d:=(d:Nat)) (b:=(b:Nat)) (r:=(r:Nat)) (l8 _);omega
theorem b3s (N:Nand) (n:Int):∀k,V.goS N [] n k=⟨Tb.new n,[],[],[]⟩
 | 0=>rfl
 | k+1=>by
  rw[V.goS_succ,b3s N n k];unfold V.step;rw[g7];show¬(V.standOf (V.of [] k)).2=true;rw[show V.of [] (k:Int)=[]from rfl,V.standOf_nil];exact m6
theorem b5T (D B P:Nat) (n:Int):V.scan (Nand.new D B P) n=⟨Tb.new n,[],0,[],1,0⟩:=by
 unfold V.scan V.scanOf;rw[b9J,b3s];have h1:I6 (a0t [])=[]:=a5o;dsimp only;rw[h1];rfl
theorem b5S {t:Tl} (hl:t.l.length=t.b) (k:Int):t.set k (t.at_ k)=t:=by
 unfold Tl.set;split
 ·rename_i h;have hk:=Tl.get_at hl h;have:t.l.set k.toNat (t.at_ k)=t.l:=by
   apply t6;intro i;rw[s9];split
   ·rename_i e;subst e;rw[hk];split
    ·rfl
    ·rename_i h2;rw[j9 (by omega)]at hk;cases hk
   ·rfl
  rw[this]
 ·rfl
theorem b0v (D B P:Nat) (b:Int):(Tl.new D B P).at_ b=Sb.zero:=by
 unfold Tl.new Tl.at_;dsimp only;rw[f9,D8];split<;>rfl
theorem b8T (D B P:Nat) (b d:Nat):Tl.ofD (Nand.new D B P) b (Tl.new D B P) d=Tl.new D B P:=by
 have hw:(Nand.new D B P).wornAt d b=0:=by unfold Nand.wornAt;split<;>rfl
 have hn:(Nand.new D B P).next d b=0:=by unfold Nand.next;split<;>rfl
 have h1:(Tl.new D B P).wore b 0=Tl.new D B P:=by
  have h2:=b5S (t:=Tl.new D B P) (by show(List.replicate B Sb.zero).length=B;rw[W6]) (b:Int);unfold Tl.wore;rw[b0v]at h2 ⊢;exact h2
 unfold Tl.ofD;dsimp only;rw[hw,hn,h1,g7];simp
theorem c0y (D B P:Nat):Tl.of (Nand.new D B P)=Tl.new D B P:=by
 have hd:Dv.seeDead (Nand.new D B P) (Tl.new D B P)=Tl.new D B P:=b2e λi=>by
  show(List.replicate D false).getD i false=false;rw[f9,D8];split<;>rfl
 have h1:∀(b:Nat) (q:List Nat),q.foldl (Tl.ofD (Nand.new D B P) b) (Tl.new D B P)=Tl.new D B P:=by
  intro b q
  induction q with
  | nil=>rfl
  | cons d q ih=>rw[x9,b8T,ih]
 have h2:∀q:List Nat,q.foldl (Tl.ofB (Nand.new D B P)) (Tl.new D B P)=Tl.new D B P:=by
  intro q
  induction q with
  | nil=>rfl
  | cons b q ih=>
   rw[x9];have:Tl.ofB (Nand.new D B P) (Tl.new D B P) b=Tl.new D B P:=h1 b _;rw[this,ih]
 unfold Tl.of;rw[show(Nand.new D B P).dies=D from rfl,show(Nand.new D B P).blocks=B from rfl,show(Nand.new D B P).pages=P from rfl,hd,h2]
theorem b5X {D B P k m:Nat} {lg:Int} (hO:(Dv.new D B P lg).Ok k m):(Dv.new D B P lg).clear=(Dv.new D B P lg,0)/\(Dv.new D B P lg).room=(Dv.new D B P lg,0):=by
 have hg:=hO.gd.ok.bd16;have hg:(3<=D/\D<=6)/\(8<=B/\B<=16)/\(2<=P/\P<=8):=hg;have hsp:y5 (C9 (Dv.new D B P lg).t (Dv.new D B P lg).T) (Dv.new D B P lg).op (Dv.new D B P lg).t.b=[]:=a3T _ λx hx=>by
  have hx:x<B:=hx;unfold C9 Tl.blank;rw[show(Dv.new D B P lg).t=Tl.new D B P from rfl,b0v,Tl.has_iff.2 (show 0<=(x:Int)/\(x:Int)<(Tl.new D B P).b by show 0<=(x:Int)/\(x:Int)<(B:Int);omega)];simp[Sb.zero]
 have hc:(Dv.new D B P lg).clear=(Dv.new D B P lg,0):=by
  unfold Dv.clear Dv.clearX;rw[hsp];rfl
 have hfr:((Dv.new D B P lg).free:Int)>4:=by
  have h1:=(Inv.new (-1) D B P lg).free_len (k:=k) (m:=m) hO;have h2:(Dv.new D B P lg).t.blanks=B:=by
   show(List.replicate B Sb.zero).countP _=B;rw[List.countP_replicate];rfl
  have h1:(Dv.new D B P lg).free=(Dv.new D B P lg).t.blanks:=h1;omega
 refine⟨hc,?_⟩;unfold Dv.room;rw[hc,g7 (by simp)];obtain⟨c,hc2⟩:∃c,(Dv.new D B P lg).t.b=c+1:=⟨(Dv.new D B P lg).t.b-1,by show B=B-1+1;omega⟩;rw[hc2];show Dv.roomGo (c+1) (Dv.new D B P lg)=_;unfold Dv.roomGo;rw[i3 hfr]
theorem b4m {D B P k m:Nat} (hO:(Dv.new D B P (lgN D B P)).Ok k m):M3 (Nand.new D B P)=(Dv.new D B P (lgN D B P),0):=by
 obtain⟨c1,c2⟩:=b5X hO;unfold M3;rw[show(Nand.new D B P).dies=D from rfl,show(Nand.new D B P).blocks=B from rfl,show(Nand.new D B P).pages=P from rfl,b5T,c0y];have e:(⟨Nand.new D B P,Tl.new D B P,Tb.new (lgN D B P),-1,0,0,max 1 1⟩:Dv)=Dv.new D B P (lgN D B P):=rfl;dsimp only;rw[e];have h1:(Dv.new D B P (lgN D B P)).holds [] true=Dv.new D B P (lgN D B P):=rfl;have h2:(Dv.new D B P (lgN D B P)).holds [] false=Dv.new D B P (lgN D B P):=rfl;have h3:(Dv.new D B P (lgN D B P)).torn []=(Dv.new D B P (lgN D B P),0):=rfl;rw[h1,List.take_nil,List.drop_nil,h3];dsimp only;rw[g7 (by simp),h2,c1];dsimp only;rw[g7 (by simp),h3];dsimp only;rw[g7 (by simp)];exact c2
theorem FI.new (fd:Int) {D B P:Nat} (hD:3<=D/\D<=6) (hB:8<=B/\B<=16) (hP:2<=P/\P<=8) (hlg:lgN D B P<=200):FI fd [] (lgN D B P) (Fv.of (Dv.new D B P (lgN D B P))):=
 ⟨Inv.new fd D B P _,⟨rfl,λ_ _ he=>(by cases he)⟩,λ_ _ he=>(by cases he),λ_ _ he=>(by cases he),(by
  show min (max ((lgN D B P:Nat):Int) 0) 65536=_;omega),rfl,hlg,λ_ he=>(by cases he),a0X,rfl⟩
namespace Rmy
variable {fd : Int} {S : Dv} {k m β : Nat} {W : List (Int × En)}
theorem pens {E:List En} (h:Rmy fd W S) (hO:S.Ok (8*Dv.fuel+k) m) (hot:Hot2 fd S β) (hr:β<S.rows) (hf:∀e∈E,FitR e) (hl0:E.length≠0) (hnd:(E.map (·.lpn)).Nodup) (hlg:∀e∈E,e.lpn<S.T.logical) (hcap:2*S.T.logical.toNat<=(S.N.blocks-5)*(S.N.pages*(S.N.dies-2))+1) (hnx:S.next<=1099511627775-1200):
  ∃(V:Dv) (n β':Nat),S.pen E=(V,(n:Int),(0:Int))/\1<=n/\n<=E.length/\Rmy fd (a0Z W E n) V/\V.Ok k m/\Hot2 fd V β'/\β'<=β/\S.rows+β'<=V.rows+1+β/\S.next<=V.next/\V.next<=S.next+21/\V.N.dead=S.N.dead/\V.N.broken=S.N.broken/\S.N.Like V.N/\V.T.logical=S.T.logical:=by
 obtain⟨V,n,γ,p1,p2,p3,p4⟩:=h.inv.pen_step (E:=E) hO hot hr hf hl0 hnd hlg hnx h.hd;obtain⟨g1,g2⟩:=p2.hot β hot;have hrw:=p2.rows;have hn:=p2.n1;have hlen:(a0Z W E n).length=V.T.at_.length:=by
  have:=congrArg List.length p4.keys;simpa using this.symm
 have hal:=b7Q p3.T;obtain⟨w1,_⟩:WOk (a0Z W E n)/\True:=by
  refine⟨?_,trivial⟩;have:∀j,j<=E.length->WOk (a0Z W E j):=by
   intro j
   induction j with
   | zero=>intro _;exact h.wok
   | succ j ih=>
    intro hj;rw[a1j];exact(ih (by omega)).put (hf _ (X3 (by omega)))
  exact this n hn
 refine⟨V,n,β-γ,p1,p2.n3,p2.n1,⟨p2.inv,p4,w1,λb hb=>by rw[p2.has]at hb;rw[(p2.sb b hb).1];exact h.held b hb,?_⟩,p3,g2,by omega,by omega,p2.next.1,p2.next.2,p2.dead,p2.broken,p2.like,p2.logical⟩;rw[p2.like.blocks,p2.like.pages,p2.like.dies,hlen];rw[p2.logical]at hal;omega
end Rmy
theorem GI.new (fd:Int) (D B P:Nat) (lg:Int):GI fd [] (Dv.new D B P lg):=
 ⟨Inv.new _ _ _ _ _,⟨rfl,λi e he=>(by cases he)⟩,λi e he=>(by cases he),λi a ha=>(by cases ha),λb r _ _=> .none λd c hc=>(by
  have:(Dv.new D B P lg).N.pageAt d b r=none:=by show(Nand.new D B P).pageAt d b r=none;unfold Nand.pageAt Nand.new;simp
  rw[this]at hc;cases hc)⟩
structure FC (W:List (Int×En)) (lg:Nat) (F:Fv):Prop where
 fi:FI (-1) W lg F
 rmy:Rmy (-1) W F.S
 no:NoF F.S
 rows:5*F.S.N.pages<=F.S.rows+1
 cap:2*lg<=(F.S.N.blocks-5)*(F.S.N.pages*(F.S.N.dies-2))+1
 gi:GI (-1) W F.S
theorem V.goS_none {N:Nand} {L:List Fnd} (h:∀i:Nat,(V.standOf (V.of L i)).2=true->(V.standOf (V.of L i)).1.whole=true) (n:Int):∀k,(V.goS N L n k).torn=[]/\(V.goS N L n k).others=[]/\(V.goS N L n k).held=[]
 | 0=>⟨rfl,rfl,rfl⟩
 | k+1=>by
  have ih:=V.goS_none (N:=N) h n k;rw[V.goS_succ];unfold V.step;split
  ·rename_i hs;rw[i3 (h k hs)];exact ih
  ·exact ih
theorem V.nextOf_le {c:Int} (hc:1<=c):∀(n:Nat) (l:List Fnd),l.length=n->(∀f∈l,f.en.seq+1<=c)->V.nextOf l<=c
 | 0,l,hl,_=>by rw[l9 hl];exact hc
 | n+1,l,hl,h=>by
  obtain⟨l',x,rfl⟩:∃l' x,l=l'++[x]:=⟨l.dropLast,l.getLast (λe=>by rw[e]at hl;cases hl),(a0x _).symm⟩;have hl':l'.length=n:=by simpa using hl
  rw[V.nextOf_snoc];have h1:=V.nextOf_le hc n l' hl' λf hf=>h f (List.mem_append_left _ hf);have h2:=h x (by simp);omega
theorem a4T {t:Tl} (hl:t.l.length=t.b):t.blanks=(List.range t.b).countP λi:Nat=>!(t.at_ (i:Nat)).used:=by
 unfold Tl.blanks Tl.at_;rw[Inv.countP_range_get _ Sb.zero,hl];simp
namespace GI
variable {fd : Int} {W : List (Int × En)} {S : Dv} {k m : Nat}
theorem next_le (h:GI fd W S) (hO:S.Ok k m):(Dv.mt0 S.N).next<=max S.next 1:=by
 have hg:=hO.gd.ok.bd16;have h1:=V.nextOf_le (c:=max S.next 1) (by omega) _ _ rfl λf hf=>by
  obtain⟨b,r,hb,hr,hfr⟩:=V.mem_all.1 hf;rcases(h.dsc b r hb hr).fnd h.inv.lit.off hg.1 hfr with⟨a,ha,hlt⟩ | ⟨⟨w,a,_,ha,hlt⟩,_⟩
  ·have:=(h.inv.st _ a ha).seq;omega
  ·have:=(h.inv.st _ a ha).seq;omega
 show max (V.nextOf (V.all S.N)) 1<=_;omega
theorem rows_mt {V:Dv} (h:GI fd W S) (hO:S.Ok k m) (hlog:S.T.logical=(lgN S.N.dies S.N.blocks S.N.pages:Int)) (hV:V.Ok k m) (hI:Inv fd V) (hT:V.T=(Dv.mt0 S.N).T) (hop:V.op= -1) (hlk:S.N.Like V.N) (hheld:∀b,V.t.has b=true->(V.t.at_ b).held=false) (hsp:y5 (C9 V.t V.T) V.op V.t.b=[]):S.rows<=V.rows+S.N.pages:=by
 obtain⟨W',_,_,hG,_,hblk⟩:=h.mt0 hO hlog;have hb1:=hO.t.b;have hb2:=hV.t.b;have hb3:=hlk.blocks;have hrow:=hO.row;have hbl:S.t.blanks<=V.t.blanks:=by
  rw[a4T hO.t.len,a4T hV.t.len,show V.t.b=S.t.b from by omega];refine List.countP_mono_left λx hx hu=>?_;have hx:=List.mem_range.1 hx;have hhas:S.t.has (x:Int)=true:=Tl.has_iff.2 (by omega);have hhasV:V.t.has (x:Int)=true:=Tl.has_iff.2 (by omega);cases huV:(V.t.at_ (x:Nat)).used with
  | false=>rfl
  | true=>
   exfalso
   have hc:¬V.T.count (x:Int)=0:=λhc=>by
    have:(x:Int)∈y5 (C9 V.t V.T) V.op V.t.b:=mem_pkSome.2 ⟨by omega,by omega,by omega,by
     unfold C9;rw[hI.usable hV hhasV,hc];unfold Tl.blank Tl.held;rw[hhasV,huV,hheld _ hhasV];rfl⟩
    rw[hsp]at this;cases this
   have hcn:=hV.T.cnt (x:Int);obtain⟨y,hy,hyb⟩:=List.countP_pos_iff.1 (show 0<V.T.at_.countP λz=>z.2.block==(x:Int)by unfold Tb.cntB at hcn;omega);have hl:=a4C hV.T hy;rw[hT]at hl;obtain⟨a,ha,hab⟩:=hblk _ _ hl;have hus:=(h.inv.st _ a ha).used;rw[<- hab,show y.2.block=(x:Int)from by simpa using hyb]at hus;rw[hus]at hu;cases hu
 unfold Dv.rows;rw[hop,g7 (show¬(-1:Int)>=0 by decide),hlk.pages];have:=x5 S.N.pages hbl;split<;>omega
theorem mounted (h:GI fd W S) (hR:Rmy fd W S) (hO:S.Ok (Dv.costK+k) m) (hlog:S.T.logical=(lgN S.N.dies S.N.blocks S.N.pages:Int)) (hwh:∀i a,Tb.look S.T.at_ i=some a->(M.look S.N (G.parity a.mask a.block a.row) a.block a.row).2=1) (hot:Hot2 fd (Dv.mt0 S.N) 0) (hr:4*S.N.pages<=S.rows) (hnx:S.next<=1099511627775-30000000):
  ∃V W',M3 S.N=(V,0)/\(∀i,Tb.look W' i=Tb.look W i)/\GI fd W' V/\Rmy fd W' V/\Hot2 fd V 0/\V.Ok k m/\(V.free:Int)>4/\V.next<=S.next+6401/\V.N.dead=S.N.dead/\V.N.broken=S.N.broken/\S.N.Like V.N/\V.T.logical=S.T.logical:=by
 have hg:=hO.gd.ok.bd16;have hO1:S.Ok (96+(Dv.costM+k)) m:=hO.less (by unfold Dv.costK;omega);have hn1:=hO.next;have hnle:=h.next_le hO;obtain⟨W',w1,w2,w3,w4,w5⟩:=h.mt0 hO1 hlog;have hlog0:=Dv.mt0_log hO.gd;have hR0:Rmy fd W' (Dv.mt0 S.N):=⟨w3.inv,w3.hd,w3.wok,w4,by have:=hR.cap;show 2*W'.length<=(S.N.blocks-5)*(S.N.pages*(S.N.dies-2))+1;omega⟩;have hO0:(Dv.mt0 S.N).Ok (96+(Dv.costM+k)) m:=Dv.Ok.mt0 hO1.gd;have hall:∀i:Nat,(V.standOf (V.of (V.all S.N) i)).2=true->(V.standOf (V.of (V.all S.N) i)).1.whole=true:=λi hs=>by
  cases ha:Tb.look S.T.at_ (i:Int)with
  | none=>rw[h.stand_none hO ha]at hs;cases hs
  | some a=>
   obtain⟨w,f,_,g2,_,_,_,_,_,_,g9⟩:=h.stand hO ha;rw[g2];show f.whole=true;rw[g9,hwh _ a ha];rfl
 obtain⟨s1,s2,s3⟩:=V.goS_none (N:=S.N) hall (lgN S.N.dies S.N.blocks S.N.pages) (V.size (lgN S.N.dies S.N.blocks S.N.pages));have hs1:(V.scan S.N (lgN S.N.dies S.N.blocks S.N.pages)).torn=[]:=by
  show(V.goS S.N (V.all S.N) (lgN S.N.dies S.N.blocks S.N.pages) (V.size (lgN S.N.dies S.N.blocks S.N.pages))).torn++(V.goS S.N (V.all S.N) (lgN S.N.dies S.N.blocks S.N.pages) (V.size (lgN S.N.dies S.N.blocks S.N.pages))).others=[];rw[s1,s2];rfl
 have hs2:(V.scan S.N (lgN S.N.dies S.N.blocks S.N.pages)).held=[]:=by
  show a7l (V.goS S.N (V.all S.N) (lgN S.N.dies S.N.blocks S.N.pages) (V.size (lgN S.N.dies S.N.blocks S.N.pages))).held=[];rw[s3];exact a5o
 obtain⟨U,u1,u2,u3,u4,_,u6,u7,_,u9,u10,u11,u12,u13,u14,u15⟩:=hR0.clear (β:=0) hO0;have hU0:=w3.clear hO0;obtain⟨U',x1,x2,_⟩:=hU0;rw[u1]at x1;injection x1 with x1 _;subst x1;have hUlog:U.T.logical=(lgN S.N.dies S.N.blocks S.N.pages:Int):=by rw[u6];exact hlog0
 have hrows:=h.rows_mt (V:=U) (hO1.less (show Dv.costM+k<=_ by omega)) hlog u3 u2.inv u6 u7 u13 u2.held u4;have hUt:=u3.t.b;have hU4:=u15 hot;have hp:=u13.pages;have hb:=u13.blocks;have hb0:(Dv.mt0 S.N).N.blocks=S.N.blocks:=rfl;have hp0:(Dv.mt0 S.N).N.pages=S.N.pages:=rfl;obtain⟨V,β',v1,v2,v3,v4,v5,v6,v7,v8,v9,v10,v11,v12,v13⟩:=u2.room (k:=k) (u3.less (by
  have:Dv.costR*U.t.b<=Dv.costR*16:=x5 _ (by omega);unfold Dv.costM;omega)) hU4 (by omega) (by omega) (by omega)
 obtain rfl:β'=0:=by omega
 obtain⟨y1,y2⟩:=x2.room (k:=k) u3 hU4 (by rw[hUlog];have:=a2C hO.gd.ok;omega) (by omega);rw[v1]at y1 y2;have y1:GI fd W' V:=y1;have y2:Hot2 fd V 0:=y2;refine⟨V,W',?_,w1,y1,v2,v6,v3,v4,by omega,v9.trans u11,v10.trans u12,u13.trans v11,?_⟩
 ·rw[a7r];dsimp only;rw[hs1,hs2,List.take_nil,List.drop_nil];have h1:(Dv.mt0 S.N).holds [] true=Dv.mt0 S.N:=rfl;have h2:(Dv.mt0 S.N).holds [] false=Dv.mt0 S.N:=rfl;have h3:∀Z:Dv,Z.torn []=(Z,0):=λ_=>rfl;rw[h1,h3];dsimp only;rw[g7 (by simp),h2,u1];dsimp only;rw[g7 (by simp),h3];dsimp only;rw[g7 (by simp),v1]
 ·rw[v12,hUlog,hlog]
end GI
theorem Full.par_good {N:Nand} {b r m:Int} {l:List En} (h:Full (-1) N b r m l) (hoff:N.off=false) (hdead:∀i:Nat,N.dead.getD i false=false):(M.look N (G.parity m b r) b r).2=1:=by
 have hx:=p6 (a0R b r m l);obtain⟨n1,n2,_⟩:=h.is.inn _ hx;obtain⟨t,ht⟩:=h.good _ hx (by omega);have hrf:N.refuses (G.parity m b r) b r=0:=by
  unfold Nand.refuses;rw[hoff,g7 (by decide),Nand.geoIn_of ⟨n1,n2⟩ h.is.blk h.is.row,g7 (by decide),hdead];rfl
 rw[a4D (h.is.sh _ hx).1 hrf ht]
def Nand.cyc (N:Nand):Nand:=(N.setCut (-1) 0).onN
theorem Nand.cyc_same (N:Nand) (h:N.Lit):N.Like N.cyc/\N.cyc.blk=N.blk/\N.cyc.dead=N.dead/\N.cyc.plan=N.plan/\N.cyc.broken=N.broken/\N.cyc.Lit:=by
 have e:N.cyc={N with cuts:=false,left:= -1,keep:=0,off:=false}:=by
  unfold Nand.cyc Nand.setCut Nand.onN;rw[h.off];rfl
 rw[e];exact⟨⟨rfl,rfl,rfl⟩,rfl,rfl,rfl,rfl,⟨rfl,rfl⟩⟩
theorem b3Y {N N':Nand} (hl:N.Like N') (ho:N'.off=N.off) (hd:N'.dead=N.dead) (hb:N'.blk=N.blk) (b r s m:Int):R.read N' b r s m=R.read N b r s m:=by
 have hlook:∀d:Int,M.look N' d b r=M.look N d b r:=λd=>by
  have hr:N'.refuses d b r=N.refuses d b r:=by
   unfold Nand.refuses;rw[ho,hl.dies,hl.blocks,hl.pages,hd]
  have hp:N'.pageAt d b r=N.pageAt d b r:=by unfold Nand.pageAt;rw[hb]
  have h1:N'.readE d b r=N.readE d b r:=by unfold Nand.readE;rw[hr,hp]
  have h2:N'.readV d b r=N.readV d b r:=by unfold Nand.readV;rw[hr,hp]
  unfold M.look;simp only[h1,h2]
 have h2:R.look N' b r m=R.look N b r m:=by
  unfold R.look R.ones R.one;simp only[hlook]
 unfold R.read;rw[h2,hl.dies,hl.blocks,hl.pages,ho]
namespace FC
variable {W : List (Int × En)} {lg k m : Nat} {F : Fv}
theorem Inv.cyc {fd:Int} {S:Dv} (h:Inv fd S):Inv fd {S with N:=S.N.cyc}:=by
 obtain⟨c1,c2,c3,c4,c5,c6⟩:=S.N.cyc_same h.lit;refine⟨c6,λi hi=>by show S.N.cyc.dead.getD i false=false;rw[c3];exact h.dead i hi,λa ha=>h.plan a (by rw[<- c4];exact ha),λi j hi=>by show(S.N.cyc.blk i j).met=false/\(S.N.cyc.blk i j).fails=false;rw[c2];exact h.flags i j hi,h.tdead,h.tbad,?_,λb hb hu d hd=>by show(S.N.cyc.blk d b.toNat).cells=[];rw[c2];exact h.blank b hb hu d hd,λi a ha=>?_⟩
 ·rcases h.op with e | e
  ·exact .inl e
  ·refine .inr ⟨by have:=e.blk;show 0<=S.op/\S.op<(S.N.cyc.blocks:Int);rw[c1.blocks];exact this,e.used,by have:=e.row;show 0<=S.row/\S.row<=(S.N.cyc.pages:Int);rw[c1.pages];exact this,by have:=e.mask;show Msk S.N.cyc.dies fd S.mask;rw[c1.dies];exact this,λd hd=>by
    show((S.N.cyc.blk d S.op.toNat).cells.length:Int)<=S.row/\(S.N.cyc.dead.getD d false=false->((S.N.cyc.blk d S.op.toNat).cells.length:Int)=S.row);rw[c2,c3];exact e.cells d hd⟩
 ·have hs:=h.st i a ha;obtain⟨l,g1,g2⟩:=hs.row;exact⟨⟨l,g1.keep c1 λx _=>(by unfold Nand.pageAt;rw[c2]),g2⟩,hs.used,hs.below,hs.seq⟩
theorem Hd.cyc {S:Dv} (h:Hd S W) (hl:S.N.Lit):Hd {S with N:=S.N.cyc} W:=by
 obtain⟨c1,c2,c3,c4,c5,c6⟩:=S.N.cyc_same hl;refine⟨h.keys,λi e he=>?_⟩;obtain⟨h1,a,h2,h3⟩:=h.each i e he;refine⟨h1,a,h2,?_⟩;show R.read S.N.cyc _ _ _ _=_;rw[b3Y c1 (c6.off.trans hl.off.symm) c3 c2];exact h3
theorem GI.cyc {fd:Int} {S:Dv} (h:GI fd W S):GI fd W {S with N:=S.N.cyc}:=by
 obtain⟨c1,c2,c3,c4,c5,c6⟩:=S.N.cyc_same h.inv.lit;exact h.same c1 c2 c3 c4 c6 (Inv.cyc h.inv) (Hd.cyc h.hd h.inv.lit)
end FC
structure Fl where
 at_:Int
 kind:Int
 x:Int
 y:Int
 z:Int
 n:Int
 xx:Int
deriving DecidableEq
def dF:Fl:=⟨0,0,0,0,0,0,0⟩
def flC (f:Fl):List Value:=[iI f.at_,iI f.kind,iI f.x,iI f.y,iI f.z,iI f.n,iI f.xx]
def flV (f:Fl):Value:= .agg #[iI f.at_,iI f.kind,iI f.x,iI f.y,iI f.z,iI f.n,iI f.xx]
def A4 (l:List Fl):List Value:=l.flatMap flC
theorem V0 (l:List Fl):(A4 l).length=l.length*7:=by
 induction l with
 | nil=>rfl
 | cons x l ih=>simp only[A4,u0,i5,n4]at ih ⊢;rw[ih,show(flC x).length=7 from rfl];omega
theorem X7:∀(l:List Fl) (r:List Value) (k:Nat) (x:Fl),l[k]? =some x->((A4 l++r).drop (k*7)).take 7=flC x
 | [],_,_,_,h=>by simp at h
 | y::l,r,0,x,h=>by simp at h;subst h;simp[A4,flC]
 | y::l,r,k+1,x,h=>by
  have:=X7 l r k x (by simpa using h);rw[show(k+1)*7=7+k*7 from by omega,<- A9,show(A4 (y::l)++r).drop 7=A4 l++r from rfl];exact this
theorem a0V:∀(l:List Fl) (r:List Value) (k:Nat) (x:Fl),k<l.length->(A4 l++r).take (k*7)++flC x++(A4 l++r).drop (k*7+7)=A4 (l.set k x)++r
 | [],_,_,_,h=>by simp at h
 | y::l,r,0,x,h=>by rw[O2,List.take_zero];rfl
 | y::l,r,k+1,x,h=>by
  have:=a0V l r k x (by simpa using h);rw[Q6,show A4 (y::l)++r=flC y++(A4 l++r)from by simp[A4],show(k+1)*7=(flC y).length+k*7 from by show _=7+k*7;omega,R2,show(flC y).length+k*7+7=(flC y).length+(k*7+7)from by omega,List.drop_length_add_append,n8,n8,<- n8 (List.take _ _),this];simp[A4]
def a8i (l:List Fl) (j:Nat):List Fl:=(l.set j (l.getD (j-1) dF)).set (j-1) (l.getD j dF)
def a6S (f:Fl->Fl->Int):Nat->List Fl->List Fl
 | 0,l=>l
 | j+1,l=>if f (l.getD (j+1) dF) (l.getD j dF)<0 then a6S f j (a8i l (j+1))else l
def Y8 (f:Fl->Fl->Int) (l:List Fl):Nat->List Fl
 | 0=>l
 | k+1=>a6S f (k+1) (Y8 f l k)
def U1 (f:Fl->Fl->Int) (l:List Fl):List Fl:=Y8 f l (l.length-1)
theorem a4s (l:List Fl) (j:Nat):(a8i l j).length=l.length:=by simp[a8i]
theorem b3R (l:List Fl) (j:Nat) (h:j+1<l.length):(a8i l (j+1)).Perm l:=by
 induction l generalizing j with
 | nil=>simp at h
 | cons x l ih=>
  cases j with
  | zero=>
   cases l with
   | nil=>simp at h
   | cons y l=>simp only[a8i,Q6,a0q,N9,H8,List.getD_cons_zero,a4g];exact List.Perm.swap _ _ _
  | succ j=>
   have:=ih j (by simpa using h);simp only[a8i,N9,Q6,a4g]at this ⊢;exact this.cons x
theorem a3S (f:Fl->Fl->Int):∀(j:Nat) (l:List Fl),j<l.length->(a6S f j l).Perm l
 | 0,l,_=>a0d _
 | j+1,l,h=>by
  unfold a6S;split
  ·exact(a3S f j _ (by rw[a4s];omega)).trans (b3R l j h)
  ·exact a0d _
theorem a4F (f:Fl->Fl->Int) (l:List Fl):∀k,k<l.length->(Y8 f l k).Perm l/\(Y8 f l k).length=l.length
 | 0,_=>⟨a0d _,rfl⟩
 | k+1,h=>by
  obtain⟨h1,h2⟩:=a4F f l k (by omega);exact⟨(a3S f (k+1) _ (by omega)).trans h1,by rw[Y8,(a3S f (k+1) _ (by omega)).length_eq,h2]⟩
theorem a5T (f:Fl->Fl->Int) (l:List Fl):(U1 f l).Perm l:=by
 cases l with
 | nil=>exact a0d _
 | cons x l=>exact(a4F f (x::l) _ (by simp)).1
theorem a8F (f:Fl->Fl->Int):∀(j:Nat) (l:List Fl),(a6S f j l).length=l.length
  | 0,l=>rfl
  | j + 1, l => by unfold a6S; split
                   · rw[a8F f j,a4s]
                   · rfl
theorem a5U (f:Fl->Fl->Int) (l:List Fl):∀k,(Y8 f l k).length=l.length
 | 0=>rfl
 | k+1=>by rw[Y8,a8F,a5U f l k]
theorem b9p (c:Nat) (f:Fl->Fl->Int) (hcal:I7 Tryz.prog c=true) (hf:∀x y,Fn Tryz.prog c [flV x,flV y] [] (Ps (iI (f x y)) []))
  (g n cap:Nat) (l:List Fl) (hl:l.length=n) (hn:n<=4611686018427387904) (r:List Value):FP 290 [.slice (some ⟨g,0,none⟩) n cap,iI 0,iI n,fnV c] [.pt g 57 (A4 l++r)]
  (Ps (.tuple #[]) [.pt g 57 (A4 (U1 f l)++r)]):=by
 refine FE [2,0,0,0] Tryz.func290 λX F hX=>?_;refine J.q λ_=>?_;refine J.l (α:=Nat) (λi=>1<=i/\i<=max 1 n) (λi=>[si 8 i,⟨0, .slice (some ⟨g,0,none⟩) n cap,2, .tt⟩,si 1 0,si 2 n,⟨3,fnV c,0, .tt⟩]) [1] (λi=>[.pt g 57 (A4 (Y8 f l (i-1))++r)]) (λi=>n-i) (1) (⟨by omega,by omega⟩) λi hI=>?_;refine J.qd (λ_ h1=>?_) λ_ h1=>?_
 ·simp only[d7,j3]at h1;refine J.q λ_=>?_;refine J.l (α:=(Nat×List Fl)) (λy=>y.1<=i/\y.2.length=n/\a6S f y.1 y.2=Y8 f l i) (λy=>[si 9 y.1,si 8 i,⟨0, .slice (some ⟨g,0,none⟩) n cap,2, .tt⟩,si 1 0,si 2 n,⟨3,fnV c,0, .tt⟩]) [1] (λy=>[.pt g 57 (A4 y.2++r)]) (λy=>y.1) ((i,Y8 f l (i-1))) (⟨j7 _,by rw[a5U,hl],by obtain⟨k,rfl⟩:∃k,i=k+1:=⟨i-1,by omega⟩;rfl⟩) λy hI=>?_;obtain⟨j,m⟩:=y;dsimp only at hI ⊢;have hget:∀e,e<n->m[e]? =some (m.getD e dF):=λe he=>by rw[f9,d6 (by omega),j6]
  rcases L7 j with h2 | h2
  ·subst h2;refine J.pn 4 (.of [0,4,8,12,16,20,24,28,33,36,40,44,48,53,58,60,64]) [] [1] λ_ _=>?_;rw[show decide (((0:Nat):Int)>0)=false from rfl];refine J.q λ_=>?_;refine J.vT (flV dF) rfl rfl (λhg a w he hC=>by simp[G.on]at hg) ?_;refine J.q λ_=>?_;refine J.vT (flV dF) rfl rfl (λhg a w he hC=>by simp[G.on]at hg) ?_;refine J.q λ_=>?_;refine J.gcase hX rfl rfl rfl ⟨rfl,trivial⟩ (λh=>by cases h) (λ_=>?_);refine J.vT (.bool false) rfl rfl (λhg a w he hC=>by simp[G.on]at hg) ?_;refine J.qF λ_=>?_;have hm:m=Y8 f l (i+1-1):=hI.2.2;rw[hm];refine J.q λ_=>?_;refine J.n (i+1) (⟨by omega,by omega⟩) (by omega) [0,1]
  ·obtain⟨j,rfl⟩:∃k,j=k+1:=⟨j-1,by omega⟩;refine J.pn 4 (.of [0,4,8,12,16,20,24,28,33,36,40,44,48,53,58,60,64]) [] [1] λ_ _=>?_;rw[show decide (((j+1:Nat):Int)>0)=true from i9 (by omega)];refine J.q λ_=>?_;refine J.vT (flV (m.getD (j+1) dF)) rfl rfl (λhg a w he hC=>?_) ?_
   ·exact H1 tk rfl rfl he hg rfl rfl (hC rfl _ (B5 (i:=1) rfl)) (by rw[show 0+((j+1:Nat):Int).toNat*7=(j+1)*7 from by omega];exact X7 m r _ _ (hget _ (by omega))) rfl
   refine J.q λ_=>?_;refine J.vT (flV (m.getD j dF)) rfl rfl (λhg a w he hC=>?_) ?_
   ·exact H1 tk rfl rfl he hg rfl rfl (hC rfl _ (B5 (i:=1) rfl)) (by rw[show 0+(((j+1:Nat):Int)-1).toNat*7=j*7 from by omega];exact X7 m r _ _ (hget _ (by omega))) rfl
   refine J.q λ_=>?_;refine J.call hX hcal (hf (m.getD (j+1) dF) (m.getD j dF)) [] 0 rfl rfl rfl rfl (by(repeat' (first | exact Conj.nil | refine Conj.cons ?_ ?_ | omega | exact hq0 | (simpa using hq0) | (exactλh=>h) | exact rfl | (intro hq;have hq0:=hq;try simp only[i4,j8,d7,i7,c9]at hq) | (simp;done) | (simp;omega) | decide))) rfl rfl (λ_=>rfl) ?_;refine cpq ⟨_,rfl,⟨rfl,trivial⟩,?_⟩;refine J.qd (λ_ h3=>?_) λ_ h3=>?_
   ·simp only[s7,d7]at h3;refine J.pq (.take true 0 (.take true 1 (.take true 2 (.take true 3 (.take true 4 (.take true 5 (.take true 6 (.take true 7 (.take true 8 (.take true 10 (.take true 11 (.take true 12 (.alt false 9 ((.of [54,56,62,64,71])) (.alt false 13 ((.of [38,56,62,64,71])) .non)))))))))))))) [16,17] [] λ_ _=>?_;refine J.alts ?_ ?_
    ·refine J.v (flV (m.getD j dF)) rfl rfl (λhg a w he hs=>?_) ?_
     ·exact H1 tk rfl rfl he hg rfl rfl (hs.get (i:=1) rfl) (by rw[show 0+(((j+1:Nat):Int)-1).toNat*7=j*7 from by omega];exact X7 m r _ _ (hget _ (by omega))) rfl
     refine J.q λ_=>?_;refine J.v (flV (m.getD (j+1) dF)) rfl rfl (λhg a w he hs=>?_) ?_
     ·exact H1 tk rfl rfl he hg rfl rfl (hs.get (i:=1) rfl) (by rw[show 0+((j+1:Nat):Int).toNat*7=(j+1)*7 from by omega];exact X7 m r _ _ (hget _ (by omega))) rfl
     refine J.q λ_=>?_;refine J.storeN hX tk 1 rfl rfl rfl rfl rfl rfl rfl rfl rfl rfl rfl rfl rfl ?_ (A4 (m.set (j+1) (m.getD j dF))++r) ?_ rfl (λ_=>rfl) ⟨trivial,?_⟩
     ·rw[i5,V0];show 0+((j+1:Nat):Int).toNat*7+7<=_;omega
     ·rw[show 0+((j+1:Nat):Int).toNat*7=(j+1)*7 from by omega];exact a0V m r (j+1) _ (by omega)
     refine J.q λ_=>?_;refine J.storeN hX tk 1 rfl rfl rfl rfl rfl rfl rfl rfl rfl rfl rfl rfl rfl ?_ (A4 (a8i m (j+1))++r) ?_ rfl (λ_=>rfl) ⟨trivial,?_⟩
     ·rw[i5,V0,y8];show 0+(((j+1:Nat):Int)-1).toNat*7+7<=_;omega
     ·rw[show 0+(((j+1:Nat):Int)-1).toNat*7=j*7 from by omega];exact a0V _ r j _ (by rw[y8];omega)
     refine J.q λ_=>?_;rw[show((j+1:Nat):Int)-1=(j:Int)from by omega];refine J.q λ_=>?_;refine J.n ((j,a8i m (j+1))) (⟨by dsimp only;omega,by rw[a4s];exact hI.2.1,by rw[<- hI.2.2];exact(i3 h3).symm⟩) (by dsimp only;omega) [0,1]
    ·refine J.v (flV (m.getD (j+1) dF)) rfl rfl (λhg a w he hs=>?_) ?_
     ·exact H1 tk rfl rfl he hg rfl rfl (hs.get (i:=1) rfl) (by rw[show 0+((j+1:Nat):Int).toNat*7=(j+1)*7 from by omega];exact X7 m r _ _ (hget _ (by omega))) rfl
     refine J.q λ_=>?_;refine J.v (flV (m.getD j dF)) rfl rfl (λhg a w he hs=>?_) ?_
     ·exact H1 tk rfl rfl he hg rfl rfl (hs.get (i:=1) rfl) (by rw[show 0+(((j+1:Nat):Int)-1).toNat*7=j*7 from by omega];exact X7 m r _ _ (hget _ (by omega))) rfl
     refine J.q λ_=>?_;refine J.storeN hX tk 1 rfl rfl rfl rfl rfl rfl rfl rfl rfl rfl rfl rfl rfl ?_ (A4 (m.set (j+1) (m.getD j dF))++r) ?_ rfl (λ_=>rfl) ⟨trivial,?_⟩
     ·rw[i5,V0];show 0+((j+1:Nat):Int).toNat*7+7<=_;omega
     ·rw[show 0+((j+1:Nat):Int).toNat*7=(j+1)*7 from by omega];exact a0V m r (j+1) _ (by omega)
     refine J.q λ_=>?_;refine J.storeN hX tk 1 rfl rfl rfl rfl rfl rfl rfl rfl rfl rfl rfl rfl rfl ?_ (A4 (a8i m (j+1))++r) ?_ rfl (λ_=>rfl) ⟨trivial,?_⟩
     ·rw[i5,V0,y8];show 0+(((j+1:Nat):Int)-1).toNat*7+7<=_;omega
     ·rw[show 0+(((j+1:Nat):Int)-1).toNat*7=j*7 from by omega];exact a0V _ r j _ (by rw[y8];omega)
     refine J.q λ_=>?_;rw[show((j+1:Nat):Int)-1=(j:Int)from by omega];refine J.q λ_=>?_;refine J.n ((j,a8i m (j+1))) (⟨by dsimp only;omega,by rw[a4s];exact hI.2.1,by rw[<- hI.2.2];exact(i3 h3).symm⟩) (by dsimp only;omega) [0,1]
   ·simp only[s7,c9]at h3;have hm:m=Y8 f l (i+1-1):=by rw[show i+1-1=i from rfl,<- hI.2.2];exact(g7 h3).symm
    rw[hm];refine J.q λ_=>?_;refine J.n (i+1) (⟨by omega,by omega⟩) (by omega) [0,1]
 ·simp only[c9,j3]at h1;have hi:Y8 f l (i-1)=U1 f l:=by
   rw[U1,hl,show i-1=n-1 from by omega]
  rw[hi];refine J.q λ_=>?_;refine J.f [1] ?_;exact⟨rfl,rfl⟩
def a3y (f n t l p d:Nat) (F:Fv):Atom:= .pt f 140 [pp n,pp t,pp l,pp p,pp d,iI F.nx, .bool F.off]
def FvP (f p n t l d:Nat) (F:Fv):List Atom:=[a3y f n t l p d F,a1F p n t l F.S,B1 n F.S.N,TlA t F.S.t,TbA l F.S.T,a1W d F.L]
theorem a0G (f n t l p d:Nat) (Z:Fv) (hN:Z.S.N.Ok):FP 40 [pp f] [a3y f n t l p d Z,B1 n Z.S.N] (Ps (iI Z.lg) [a3y f n t l p d Z,B1 n Z.S.N]):=by
 have hbd:=hN.bd16;have hlg:=b6I Z.S.N.dies Z.S.N.blocks Z.S.N.pages (by omega) (by omega);refine FE [2] Tryz.func40 λX F hX=>?_;refine J.qF λ_=>?_;refine J.qp (a1s n Z.S.N) [2] λ_=>?_;refine J.qp (a5x Z.S.N.dies Z.S.N.blocks Z.S.N.pages hN.geo) [] λ_=>?_;rw[hlg];exact J.qx [1,2]
theorem a1z (f n t l p d:Nat) (Z:Fv):FP 95 [pp f] [a3y f n t l p d Z,B1 n Z.S.N] (Ps (iI (if Z.ask.off=true then 9 else 0)) [a3y f n t l p d Z.ask,B1 n Z.S.N]):=by
 have hask:a3y f n t l p d Z.ask= .pt f 140 [pp n,pp t,pp l,pp p,pp d,iI Z.nx, .bool (Z.off||Z.S.N.off)]:=rfl;have hoa:Z.ask.off=(Z.off||Z.S.N.off):=rfl;rw[hask,hoa];unfold a3y;generalize Z.off=o;refine FE [2] Tryz.func95 λX F hX=>?_;refine J.qF λ_=>?_;refine J.q λ_=>?_;refine J.gcase hX rfl rfl rfl trivial (λhb=>?_) (λhb=>?_)
 ·rw[i7]at hb;subst hb;refine J.qp (a4B n Z.S.N) [2] λ_=>?_;refine J.qd (λ_ h1=>?_) λ_ h1=>?_
  ·simp only[C0,Bool.not_not]at h1;refine J.qr [1,2] λ_=>?_;rw[h1];exact⟨rfl,rfl⟩
  ·simp only[C0,Bool.not_not]at h1;refine J.qr [1,2] λ_=>?_;rw[h1];exact⟨rfl,rfl⟩
 ·rw[A5]at hb;subst hb;refine J.q λ_=>?_;refine J.v (.bool false) rfl rfl (λhg a w he hw=>by simp[G.on]at hg) ?_;refine J.qT λ_=>?_;exact J.qx [1,2]
theorem b0h (f n t l p d:Nat) (Z:Fv) (e:Int):FP 103 [pp f,iI e] [a3y f n t l p d Z] (Ps (iI e) [a3y f n t l p d (Z.told e)]):=by
 refine FE [2,0] Tryz.func103 λX F hX=>?_;exact J.qx [1]
end Go.Proofs.YtpakpgkdpofbhaaGreat
