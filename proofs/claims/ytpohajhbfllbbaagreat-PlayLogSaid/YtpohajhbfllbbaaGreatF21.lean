/- Helpers. No condition. -/
import Derived.Test.YtpohajhbfllbbaaGreatF06
import Derived.Test.YtpohajhbfllbbaaGreatF16
import Derived.Test.YtpohajhbfllbbaaGreatF17
import Derived.Test.YtpohajhbfllbbaaGreatF20
set_option maxRecDepth 20000
set_option linter.all false
namespace Go.Proofs.YtpohajhbfllbbaaGreat
open Go Go.RowKit
theorem a2Y {α:Type} [BEq α] [LawfulBEq α]:∀{K M:List α},K.Nodup->(∀x∈K,x∈M)->K.length<=M.length
 | [],M,_,_=>Nat.zero_le _
 | x::K,M,h,hs=>by
  obtain⟨h1,h2⟩:=List.nodup_cons.1 h;have hx:=hs x (by simp);have h3:=a2Y (M:=M.erase x) h2 λy hy=>by
   have hne:y≠x:=λe=>h1 (by rw[<- e];exact hy);exact(List.mem_erase_of_ne hne).2 (hs y (by simp[hy]))
  rw[List.length_erase_of_mem hx]at h3;have:0<M.length:=List.length_pos_of_mem hx;rw[List.length_cons];omega
theorem a0Z {N:Nand} (h:N.Ok):1<=lgN N.dies N.blocks N.pages/\lgN N.dies N.blocks N.pages<=200:=by
 obtain⟨hd,hb,hp⟩:=h.bd16;generalize N.dies=d at*;generalize N.blocks=b at*;generalize N.pages=p at*;have h2:3*2<=(b-5)*p:=Nat.mul_le_mul (by omega) hp.1;have h3:6*1<=(b-5)*p*(d-2):=Nat.mul_le_mul h2 (by omega);have h4:(b-5)*p<=11*8:=Nat.mul_le_mul (by omega) hp.2;have h5:(b-5)*p*(d-2)<=88*4:=Nat.mul_le_mul h4 (by omega);unfold lgN;omega
theorem a5m {N N':Nand} (h:N.Like N'):lgN N'.dies N'.blocks N'.pages=lgN N.dies N.blocks N.pages:=by rw[h.dies,h.blocks,h.pages]
theorem T4 {α:Type} {M:Nand} (f:Tl->α->Tl) (hf:∀t a,t.Fit M->(f t a).Fit M):∀(q:List α) (t:Tl),t.Fit M->(q.foldl f t).Fit M
 | [],_,h=>h
 | a::q,t,h=>T4 f hf q (f t a) (hf t a h)
theorem Tl.Fit.ofD {M N:Nand} {t:Tl} (h:t.Fit M) (b d:Nat):(Tl.ofD N b t d).Fit M:=by
 unfold Tl.ofD;dsimp only;split
 ·exact(h.wore _ _).clean _ _
 ·exact h.wore _ _
theorem Tl.Fit.ofB {M N:Nand} {t:Tl} (h:t.Fit M) (b:Nat):(Tl.ofB N t b).Fit M:=T4 _ (λ_ d h=>h.ofD b d) _ _ h
theorem Tl.Fit.new (N:Nand):(Tl.new N.dies N.blocks N.pages).Fit N:=⟨rfl,rfl,rfl,by show(List.replicate N.blocks Sb.zero).length=N.blocks;rw[List.length_replicate]⟩
theorem Tl.Fit.seeDead {M N:Nand} {t:Tl} (h:t.Fit M):(Dv.seeDead N t).Fit M:=T4 _ (λt d h=>by split;(· exact h.die _);exact h) _ _ h
theorem Tl.Fit.of (N:Nand):(Tl.of N).Fit N:=T4 _ (λ_ b h=>h.ofB b) _ _ (Tl.Fit.new N).seeDead
theorem b4c {N:Nand} (hN:N.Ok) {b r:Int} {f:Fnd} (h:f∈R.all N b r):(0<=f.slot/\f.slot<=1000)/\f.en.data.length=16:=by
 unfold R.all at h;rw[List.mem_flatMap]at h;obtain⟨m,_,h⟩:=h;unfold R.allM at h;rw[List.mem_filterMap]at h;obtain⟨k,hk,h⟩:=h;rw[List.mem_range,(I4 N b r m).1]at hk;have hs:=Dv.slots_le m;unfold R.fnd at h;split at h
 ·injection h with h;subst h;refine⟨by show(0:Int)<=((k:Nat):Int)/\((k:Nat):Int)<=1000;omega,?_⟩;show(R.enAt (R.look N b r m) k).data.length=16;unfold R.enAt;split
  ·have hl:=(I4 N b r m).1;rw[List.getD_eq_getElem?_getD,List.getElem?_eq_getElem (by omega)];exact(M6 hN b r m).1 _ (List.getElem_mem _)
  ·exact a5g hN b r m k
 ·cases h
theorem b4t {N:Nand} (hN:N.Ok) {f:Fnd} (h:f∈V.all N):(0<=f.slot/\f.slot<=1000)/\f.en.data.length=16:=by
 unfold V.all at h;rw[List.mem_flatMap]at h;obtain⟨b,_,h⟩:=h;rw[List.mem_flatMap]at h;obtain⟨r,_,h⟩:=h;exact b4c hN h
theorem b0O {N:Nand} (hN:N.Ok) (n:Int):∀k,(∀x∈(V.goS N (V.all N) n k).tb.at_,0<=x.2.slot/\x.2.slot<=1000)/\(∀s∈(V.goS N (V.all N) n k).torn,s.data.length=16)/\∀s∈(V.goS N (V.all N) n k).others,s.data.length=16
 | 0=>⟨λx hx=>by simp[V.goS,Tb.new]at hx,λs hs=>by simp[V.goS]at hs,λs hs=>by simp[V.goS]at hs⟩
 | k+1=>by
  obtain⟨h1,h2,h3⟩:=b0O hN n k;rw[V.goS_succ];unfold V.step;split
  ·rename_i hs;have hm:=V.standOf_mem hs;unfold V.of at hm;obtain⟨e1,e2⟩:=b4t hN (List.mem_filter.1 hm).1;have hp:=Tb.put_slot (e:=(V.standOf (V.of (V.all N) k)).1.en) (b:=(V.standOf (V.of (V.all N) k)).1.block) (r:=(V.standOf (V.of (V.all N) k)).1.row) (m:=(V.standOf (V.of (V.all N) k)).1.mask) h1 e1;have ha:∀l:List En,(∀s∈l,s.data.length=16)->∀s∈l++[(V.standOf (V.of (V.all N) k)).1.en],s.data.length=16:=λl hl s hs=>by
    rcases List.mem_append.1 hs with hs | hs
    ·exact hl s hs
    ·rw[List.mem_singleton]at hs;rw[hs];exact e2
   split
   ·exact⟨hp,h2,h3⟩
   split
   ·exact⟨hp,ha _ h2,h3⟩
   ·exact⟨hp,h2,ha _ h3⟩
  ·exact⟨h1,h2,h3⟩
theorem a3N {N:Nand} (hN:N.Ok) (n:Int):(V.scan N n).tb.Ok/\(∀x∈(V.scan N n).tb.at_,0<=x.2.slot/\x.2.slot<=1000)/\(∀s∈(V.scan N n).torn,s.data.length=16)/\(1<=(V.scan N n).next/\(V.scan N n).next<=1099511627776):=by
 obtain⟨h1,h2,h3⟩:=b0O hN n (V.size n);refine⟨V.goS_ok N (V.all N) n (V.size n),h1,λs hs=>?_,V.nextOf_bd λf hf=>(a6G hf).2⟩;have hs:s∈(V.goS N (V.all N) n (V.size n)).torn++(V.goS N (V.all N) n (V.size n)).others:=hs;rcases List.mem_append.1 hs with hs | hs
 ·exact h2 s hs
 ·exact h3 s hs
theorem a2N {N:Nand} {m:Nat} (hm:m<=65536):(V.scan N m).first<=(V.scan N m).torn.length/\((V.scan N m).torn.take (V.scan N m).first).length<=m/\((V.scan N m).torn.drop (V.scan N m).first).length<=m/\(V.scan N m).torn.length<=2*m:=by
 have hsz:V.size (m:Int)=m:=by unfold V.size;omega
 have h1:=V.goS_len N (V.all N) m (V.size m);rw[hsz]at h1;have e1:(V.scan N m).first=(V.goS N (V.all N) m m).torn.length:=by show(V.goS N (V.all N) m (V.size m)).torn.length=_;rw[hsz]
 have e2:(V.scan N m).torn=(V.goS N (V.all N) m m).torn++(V.goS N (V.all N) m m).others:=by show(V.goS N (V.all N) m (V.size m)).torn++(V.goS N (V.all N) m (V.size m)).others=_;rw[hsz]
 rw[e1,e2,List.length_take,List.length_drop,List.length_append];omega
theorem a7G {N:Nand} (hN:N.Ok) (n:Int):(V.scan N n).held.length<=6000:=by
 have h1:=V.goS_held N (V.all N) n (V.size n);have h2:=a7r N hN;have h3:=a7U (V.goS N (V.all N) n (V.size n)).held;show(a2X (V.goS N (V.all N) n (V.size n)).held).length<=_;omega
namespace Dv
variable {S : Dv} {N : Nand} {k m : Nat}
theorem Ok.holds (h:S.Ok k m) (l:List Int) (on:Bool):(S.holds l on).Ok k m:=⟨h.gd,T4 _ (λ_ _ h=>h.hold _ _) _ _ h.t,h.T,h.sl,h.row,h.next⟩
def mt0 (N:Nand):Dv:=⟨N,Tl.of N,(V.scan N (lgN N.dies N.blocks N.pages)).tb,-1,0,0,max (V.scan N (lgN N.dies N.blocks N.pages)).next 1⟩
theorem Ok.mt0 (hG:N.Gd k m):(Dv.mt0 N).Ok k m:=by
 obtain⟨h1,h2,_,h4⟩:=a3N hG.ok (lgN N.dies N.blocks N.pages);refine⟨hG,Tl.Fit.of N,h1,h2,by show(0:Int)<=0/\(0:Int)<=8;omega,?_⟩;show 1<=max (V.scan N (lgN N.dies N.blocks N.pages)).next 1/\max (V.scan N (lgN N.dies N.blocks N.pages)).next 1<=_;omega
theorem mt0_log (hG:N.Gd k m):(Dv.mt0 N).T.logical=(lgN N.dies N.blocks N.pages:Int):=by
 have h:=a0Z hG.ok;have:=V.goS_log N (V.all N) (lgN N.dies N.blocks N.pages) (V.size (lgN N.dies N.blocks N.pages));show(V.goS N (V.all N) (lgN N.dies N.blocks N.pages) (V.size (lgN N.dies N.blocks N.pages))).tb.logical=_;rw[this];omega
theorem torn_keep {l:List En} {c:Nat} (h:S.Ok (costT*c+k) m) (hl:l.length<=c) (hd:∀s∈l,s.data.length=16):(S.torn l).1.Ok k m/\S.N.Like (S.torn l).1.N/\(S.torn l).1.T.logical=S.T.logical:=
 tornGo_keep _ S l k (h.less (by have:=Nat.mul_le_mul_left costT hl;omega)) hd
def costK:Nat:=costT*200+(96+(costT*200+costM))
end Dv
theorem a5d (N:Nand):n7 N=(let s:=V.scan N (lgN N.dies N.blocks N.pages)
 let a:=((Dv.mt0 N).holds s.held true).torn (s.torn.take s.first)
 if a.2≠0 then a
 else
  let b:=(a.1.holds s.held false).clear
  if b.2≠0 then b
  else
   let c:=b.1.torn (s.torn.drop s.first)
   if c.2≠0 then c else c.1.room):=rfl
theorem O6 {N:Nand} {k m:Nat} (hG:N.Gd (Dv.costK+k) m):(n7 N).1.Ok k m/\N.Like (n7 N).1.N/\(n7 N).1.T.logical=(lgN N.dies N.blocks N.pages:Int):=by
 have h200:=a0Z hG.ok;obtain⟨t1,t2,t3,_⟩:=a2N (N:=N) (m:=lgN N.dies N.blocks N.pages) (by omega);obtain⟨_,_,hd,_⟩:=a3N hG.ok (lgN N.dies N.blocks N.pages);have h0:=Dv.Ok.mt0 hG;have hlog:=Dv.mt0_log hG;have hd1:∀s∈(V.scan N (lgN N.dies N.blocks N.pages)).torn.take (V.scan N (lgN N.dies N.blocks N.pages)).first,s.data.length=16:=λs hs=>hd s (List.mem_of_mem_take hs)
 have hd2:∀s∈(V.scan N (lgN N.dies N.blocks N.pages)).torn.drop (V.scan N (lgN N.dies N.blocks N.pages)).first,s.data.length=16:=λs hs=>hd s (List.mem_of_mem_drop hs)
 rw[a5d];dsimp only;have ha:=Dv.torn_keep (k:=96+(Dv.costT*200+(Dv.costM+k))) (c:=200) ((h0.holds (V.scan N (lgN N.dies N.blocks N.pages)).held true).less (by unfold Dv.costK;omega)) (by omega) hd1;have ea:((Dv.mt0 N).holds (V.scan N (lgN N.dies N.blocks N.pages)).held true).N=N:=rfl;have ea2:((Dv.mt0 N).holds (V.scan N (lgN N.dies N.blocks N.pages)).held true).T=(Dv.mt0 N).T:=rfl;rw[ea,ea2,hlog]at ha;split
 ·exact⟨ha.1.less (by omega),ha.2⟩
 generalize(((Dv.mt0 N).holds (V.scan N (lgN N.dies N.blocks N.pages)).held true).torn ((V.scan N (lgN N.dies N.blocks N.pages)).torn.take (V.scan N (lgN N.dies N.blocks N.pages)).first)).1=A at ha;have hb:=Dv.clear_keep (ha.1.holds (V.scan N (lgN N.dies N.blocks N.pages)).held false);have eb:(A.holds (V.scan N (lgN N.dies N.blocks N.pages)).held false).N=A.N:=rfl;have eb2:(A.holds (V.scan N (lgN N.dies N.blocks N.pages)).held false).T=A.T:=rfl;rw[eb,eb2]at hb;split
 ·exact⟨hb.1.less (by omega),ha.2.1.trans hb.2.1,by rw[hb.2.2];exact ha.2.2⟩
 have hc:=Dv.torn_keep (k:=Dv.costM+k) (c:=200) hb.1 (Nat.le_trans t3 h200.2) hd2;split
 ·exact⟨hc.1.less (by omega),(ha.2.1.trans hb.2.1).trans hc.2.1,by rw[hc.2.2,hb.2.2];exact ha.2.2⟩
 have hr:=Dv.room_keep hc.1;exact⟨hr.1,((ha.2.1.trans hb.2.1).trans hc.2.1).trans hr.2.1,by rw[hr.2.2,hc.2.2,hb.2.2];exact ha.2.2⟩
structure Fv.Ok (F:Fv) (k m:Nat):Prop where
 dv:F.S.Ok k m
 dat:∀e∈F.L,e.data.length=16
 rng:∀e∈F.L,0<=e.lpn/\e.lpn<F.lg
 nd:(F.L.map (·.lpn)).Nodup
 nx:0<=F.nx/\F.nx+(k:Int)<=4611686018427387904
namespace Fv
variable {F : Fv} {k m : Nat}
theorem lg_like {F G:Fv} (h:F.S.N.Like G.S.N):G.lg=F.lg:=by unfold lg;rw[a5m h]
theorem lg_bd (h:F.S.N.Ok):1<=F.lg/\F.lg<=200:=by have:=a0Z h;unfold lg;omega
theorem Ok.less (h:F.Ok k m) {k':Nat} (hk:k'<=k):F.Ok k' m:=⟨h.dv.less hk,h.dat,h.rng,h.nd,by have:=h.nx;omega⟩
theorem Ok.len (h:F.Ok k m):F.L.length<=200:=by
 have hb:=lg_bd h.dv.gd.ok;have h1:=a2Y (K:=F.L.map (·.lpn)) (M:=(List.range F.lg.toNat).map λi:Nat=>(i:Int)) h.nd λx hx=>by
  obtain⟨e,he,rfl⟩:=List.mem_map.1 hx;have:=h.rng e he;exact List.mem_map.2 ⟨e.lpn.toNat,List.mem_range.2 (by omega),by omega⟩
 simp at h1;omega
theorem Ok.ask (h:F.Ok k m):F.ask.Ok k m:=⟨h.dv,h.dat,h.rng,h.nd,h.nx⟩
def cW:Nat:=Dv.costM+8*Dv.fuel
theorem done_sub (L l:List En):(H1 L l).Sublist L:=List.filter_sublist
theorem done_lt {L:List En} {n:Nat} (h:L.length≠0) (hn:1<=n):(H1 L (L.take n)).length<L.length:=by
 unfold H1;rw[List.length_filter_lt_length_iff_exists];cases L with
 | nil=>exact absurd rfl h
 | cons x L=>
  refine⟨x,List.mem_cons_self ..,?_⟩;obtain⟨c,rfl⟩:∃c,n=c+1:=⟨n-1,by omega⟩;simp
structure Kept (F G:Fv):Prop where
 like:F.S.N.Like G.S.N
 log:G.S.T.logical=F.S.T.logical
theorem Kept.refl (F:Fv):Kept F F:=⟨Nand.Like.refl _,rfl⟩
theorem Kept.ask (F:Fv):Kept F F.ask:=⟨Nand.Like.refl _,rfl⟩
theorem Kept.trans {F G H:Fv} (h:Kept F G) (h2:Kept G H):Kept F H:=⟨h.like.trans h2.like,h2.log.trans h.log⟩
theorem Ok.with_ {S:Dv} {L:List En} {off:Bool} {k':Nat} (h:F.Ok k' m) (hS:S.Ok k m) (hk:k<=k') (hl:F.S.N.Like S.N) (hL:L.Sublist F.L):(⟨S,L,F.nx,off⟩:Fv).Ok k m:=
 ⟨hS,λe he=>h.dat e (hL.subset he),λe he=>by rw[lg_like (F:=F) (G:=⟨S,L,F.nx,off⟩) hl];exact h.rng e (hL.subset he),h.nd.sublist (hL.map _),by have:=h.nx;show 0<=F.nx/\F.nx+(k:Int)<=_;omega⟩
theorem writes_keep (h:F.Ok (cW+k) m):F.writes.1.Ok k m/\Kept F F.writes.1/\F.writes.1.L.length<=F.L.length/\(F.writes.2=0->F.L.length≠0->F.writes.1.L.length<F.L.length):=by
 have hr:=Dv.room_keep (S:=F.S) (k:=8*Dv.fuel+k) (m:=m) (h.dv.less (by unfold cW;omega));have he:F.writes=(let r:=F.S.room
  if r.2≠0 then({F with S:=r.1}.told r.2,r.2)
  else
   let w:=r.1.pen F.L
   ({F with S:=w.1,L:=H1 F.L (F.L.take w.2.1.toNat)}.told w.2.2,w.2.2)):=rfl
 dsimp only at he
 by_cases h0:F.S.room.2≠0
 ·rw[if_pos h0]at he;rw[he];exact⟨h.with_ (hr.1.less (by omega)) (by omega) hr.2.1 (List.Sublist.refl _),⟨hr.2.1,hr.2.2⟩,Nat.le_refl _,λe=>absurd e h0⟩
 ·rw[if_neg h0]at he;have hp:=Dv.pen_keep hr.1 h.dat
  have ht:=λe hl=>Dv.pen_took hr.1 h.dat e hl;rw[he];refine⟨h.with_ hp.1 (by omega) (hr.2.1.trans hp.2.1) (done_sub _ _),⟨hr.2.1.trans hp.2.1,hp.2.2.trans hr.2.2⟩,(done_sub _ _).length_le,λe hl=>?_⟩;have:=ht e hl;exact done_lt hl (by omega)
theorem flushGo_keep:∀(f:Nat) (F:Fv) (k:Nat),F.Ok (cW*f+k) m->(flushGo f F).1.Ok k m/\Kept F (flushGo f F).1
 | 0,F,k,h=>⟨h.less (by omega), .refl _⟩
 | f+1,F,k,h=>by
  rw[flushGo];split
  ·exact⟨h.less (by omega), .refl _⟩
  have hw:=writes_keep (F:=F) (k:=cW*f+k) (h.less (by rw[Nat.mul_succ];omega));dsimp only;split
  ·exact⟨hw.1.less (by omega),hw.2.1⟩
  ·have ih:=flushGo_keep f F.writes.1 k hw.1;exact⟨ih.1,hw.2.1.trans ih.2⟩
theorem flush_keep (h:F.Ok (cW*200+k) m):F.flush.1.Ok k m/\Kept F F.flush.1:=by
 unfold flush;split
 ·exact⟨h.ask.less (by omega), .ask _⟩
 ·have hl:=h.len;have hm:cW*F.L.length<=cW*200:=Nat.mul_le_mul_left _ hl;have r:=flushGo_keep F.L.length F.ask k (h.ask.less (by omega));exact⟨r.1,⟨r.2.like,r.2.log⟩⟩
theorem put_ok (h:F.Ok (1+k) m) {e:En} (hd:e.data.length=16) (hr:¬(e.lpn<0\/e.lpn>=F.lg)):(F.put e).Ok k m:=by
 have hlg:(F.put e).lg=F.lg:=rfl;refine⟨h.dv.less (by omega),λx hx=>?_,λx hx=>?_,?_,by have:=h.nx;show 0<=F.nx+1/\F.nx+1+(k:Int)<=_;omega⟩
 ·have hx:x∈(F.L.filter λy:En=>!(y.lpn==e.lpn))++[({e with seq:=F.nx}:En)]:=hx;rcases List.mem_append.1 hx with hx | hx
  ·exact h.dat x (List.mem_filter.1 hx).1
  ·rw[List.mem_singleton]at hx;rw[hx];exact hd
 ·have hx:x∈(F.L.filter λy:En=>!(y.lpn==e.lpn))++[({e with seq:=F.nx}:En)]:=hx;rw[hlg];rcases List.mem_append.1 hx with hx | hx
  ·exact h.rng x (List.mem_filter.1 hx).1
  ·rw[List.mem_singleton]at hx;rw[hx];show 0<=e.lpn/\e.lpn<F.lg;omega
 ·show(((F.L.filter λy:En=>!(y.lpn==e.lpn))++[({e with seq:=F.nx}:En)]).map (·.lpn)).Nodup;rw[List.map_append,List.nodup_append];refine⟨List.Nodup.sublist ((List.filter_sublist (p:=λx:En=>!(x.lpn==e.lpn)) (l:=F.L)).map (·.lpn)) h.nd,by simp,λa ha b hb hab=>?_⟩;obtain⟨x,hx,rfl⟩:=List.mem_map.1 ha;simp at hb;have:=(List.mem_filter.1 hx).2;rw[hab,hb]at this;simp at this
theorem waits_keep (h:F.Ok (cW+(1+k)) m) {e:En} (hd:e.data.length=16):(F.waits e).1.Ok k m/\Kept F (F.waits e).1:=by
 unfold waits;split
 ·exact⟨h.ask.less (by omega), .ask _⟩
 split
 ·exact⟨h.ask.less (by omega), .ask _⟩
 rename_i hr;have hr:¬(e.lpn<0\/e.lpn>=F.lg):=hr;split
 ·have hw:=writes_keep h.ask;dsimp only;split
  ·exact⟨hw.1.less (by omega),⟨hw.2.1.like,hw.2.1.log⟩⟩
  ·refine⟨put_ok hw.1 hd ?_,⟨hw.2.1.like,hw.2.1.log⟩⟩;rw[lg_like (F:=F) (G:=F.ask.writes.1) hw.2.1.like];exact hr
 ·exact⟨put_ok (h.ask.less (by omega)) hd hr,⟨Nand.Like.refl _,rfl⟩⟩
theorem write_keep (h:F.Ok (cW+(1+k)) m) (i:Int) {d:List UInt8} (hd:d.length=16):(F.write i d).1.Ok k m/\Kept F (F.write i d).1:=waits_keep h hd
theorem trim_keep (h:F.Ok (cW+(1+k)) m) (i:Int):(F.trim i).1.Ok k m/\Kept F (F.trim i).1:=waits_keep h rfl
theorem tick_keep (h:F.Ok (Dv.costS+k) m):F.tick.1.Ok k m/\Kept F F.tick.1:=by
 unfold tick;split
 ·exact⟨h.ask.less (by omega), .ask _⟩
 ·have hs:=Dv.step_keep h.ask.dv 4;exact⟨h.ask.with_ hs.1 (by omega) hs.2.1 (List.Sublist.refl _),⟨hs.2.1,hs.2.2⟩⟩
theorem whole_keep (h:F.Ok k m):F.whole.1.Ok k m/\Kept F F.whole.1:=by
 unfold whole;split
 ·exact⟨h.ask, .ask _⟩
 ·exact⟨h.ask.with_ h.dv.seen (Nat.le_refl _) (Nand.Like.refl _) (List.Sublist.refl _),⟨Nand.Like.refl _,rfl⟩⟩
theorem read_keep (h:F.Ok k m) (i:Int):(F.read i).1.Ok k m/\Kept F (F.read i).1:=by
 unfold read;split
 ·exact⟨h.ask, .ask _⟩
 split
 ·exact⟨h.ask, .ask _⟩
 ·exact⟨h.ask, .ask _⟩
theorem of_ok {S:Dv} (h:S.Ok k m) (hk:k<=1000000000000000):(Fv.of S).Ok k m:=⟨h,λ_ h=>(by cases h),λ_ h=>(by cases h),List.nodup_nil,by show(0:Int)<=0/\(0:Int)+(k:Int)<=_;omega⟩
end Fv
abbrev a2D (d:List UInt8):Value:= .agg (j8 d).toArray
theorem Fv.slot_bd {S:Dv} {k m:Nat} (hO:S.Ok k m) (i:Int):0<=((Tb.look S.T.at_ i).getD AtV.zero).slot/\((Tb.look S.T.at_ i).getD AtV.zero).slot<=1000:=by
 cases hl:Tb.look S.T.at_ i with
 | none=>show(0:Int)<=0/\(0:Int)<=1000;omega
 | some a=>exact hO.sl _ (Tb.look_mem hl)
theorem U9 (f p n t l d:Nat) (Z:Fv) (k m:Nat) (hO:Z.Ok k m) (i:Int):FP 38 [pp f,iI i] (FvP f p n t l d Z)
  (λv As=>v= .tuple #[a2D (Z.read i).2.1,iI (Z.read i).2.2]/\As=FvP f p n t l d (Z.read i).1):=by
 have hlen:=hO.len;have hN:=hO.dv.gd.ok;refine FE [2,0] Tryz.func38 λX F hX=>?_;refine J.q λbz=>?_;refine J.cb (I8 f n t l p d Z) [1,3] ?_;refine cpq ⟨_,rfl,trivial,?_⟩;have hrd:Z.read i=(if Z.ask.off=true then(Z.ask,zeros16,9)else if i<0\/i>=Z.ask.lg then(Z.ask,zeros16,3)else(Z.ask,Z.ask.get i)):=rfl;obtain⟨Y,hY⟩:∃Y,Y=Z.ask:=⟨_,rfl⟩;have e1:Z.S=Y.S:=by rw[hY];rfl
 have e2:Z.L=Y.L:=by rw[hY];rfl
 rw[<- hY,e1,e2];rw[<- hY]at hrd;rw[e1]at hN;rw[e2]at hlen;cases ho:Y.off with
 | true=>
  rw[ho,if_pos rfl]at hrd;refine J.qT λ_=>?_;refine J.qr [1,2,3,4,5,6] λ_=>?_;rw[hrd];exact⟨rfl,rfl⟩
 | false=>
  rw[ho,if_neg Bool.false_ne_true]at hrd;refine J.qF λ_=>?_;refine J.q λ_=>?_;refine J.gcase hX rfl rfl rfl trivial (λhb=>?_) (λhb=>?_)
  ·have hi:decide (i<0)=false:=by simpa using hb
   rw[hi];refine J.qp (P4 f n t l p d Y hN) [1,3] λ_=>?_;simp only[decide_eq_false_iff_not]at hi;refine J.qd (λ_ h1=>?_) λ_ h1=>?_
   ·simp only[Bool.false_or,ge_iff_le,decide_eq_true_eq]at h1;rw[if_pos (.inr h1)]at hrd;refine J.qr [1,2,3,4,5,6] λ_=>?_;rw[hrd];exact⟨rfl,rfl⟩
   simp only[Bool.false_or,ge_iff_le,decide_eq_false_iff_not]at h1;rw[if_neg (by omega)]at hrd;refine J.qp (b3o d Y.L (by omega) i) [6] λ_=>?_;have hge:Y.get i=(if(Q8 Y.L i).2=true then((Q8 Y.L i).1.data,0)else match Tb.look Y.S.T.at_ i with
    | none=>(zeros16,0)
    | some a=>if a.role=2 then(zeros16,0)else if a.role=4 then(zeros16,10)else
     let x:=R.read Y.S.N a.block a.row a.slot a.mask
     if x.2≠0\/x.1.lpn≠i\/x.1.seq≠a.seq then(zeros16,10)else(x.1.data,0):List UInt8×Int):=rfl
   obtain⟨⟨we,wb⟩,hw⟩:∃w,w=Q8 Y.L i:=⟨_,rfl⟩;rw[<- hw]at hge ⊢;dsimp only at hge ⊢;refine J.qd (λ_ h2=>?_) λ_ h2=>?_
   ·rw[if_pos h2]at hge;refine J.qr [1,2,3,4,5,6] λ_=>?_;rw[hrd,hge];exact⟨rfl,rfl⟩
   rw[h2,if_neg Bool.false_ne_true]at hge;refine J.qp (Z8 l Y.S.T i) [5] λ_=>?_;obtain⟨a,ha⟩:∃a,a=(Tb.look Y.S.T.at_ i).getD AtV.zero:=⟨_,rfl⟩;obtain⟨is,his⟩:∃b,b=(Tb.look Y.S.T.at_ i).isSome:=⟨_,rfl⟩;have hslot:=Fv.slot_bd hO.dv i;rw[e1]at hslot;rw[<- ha]at hslot;rw[<- ha,<- his];cases is with
   | false=>
    cases hl:Tb.look Y.S.T.at_ i with
    | some x=>rw[hl]at his;cases his
    | none=>
     rw[hl]at hge;refine J.q λbd=>?_;refine J.cT ?_;refine J.qr [1,2,3,4,5,6] λ_=>?_;rw[hrd,hge];exact⟨rfl,rfl⟩
   | true=>
    cases hl:Tb.look Y.S.T.at_ i with
    | none=>rw[hl]at his;cases his
    | some x=>
     rw[hl]at ha hge;obtain rfl:a=x:=ha;dsimp only at hge;refine J.q λbd=>?_;refine J.cond rfl (λh3=>?_) (λh3=>?_)
     ·simp only[Bool.not_true,Bool.false_or,beq_iff_eq]at h3;rw[if_pos h3]at hge;refine J.qr [1,2,3,4,5,6] λ_=>?_;rw[hrd,hge];exact⟨rfl,rfl⟩
     simp only[Bool.not_true,Bool.false_or,beq_eq_false_iff_ne,ne_eq]at h3;rw[if_neg h3]at hge;refine J.qd (λ_ h4=>?_) λ_ h4=>?_
     ·simp only[beq_iff_eq]at h4;rw[if_pos h4]at hge;refine J.qr [1,2,3,4,5,6] λ_=>?_;rw[hrd,hge];exact⟨rfl,rfl⟩
     simp only[beq_eq_false_iff_ne,ne_eq]at h4;rw[if_neg h4]at hge;have hr:=hO.dv.gd.room;rw[e1]at hr;refine J.p (.take true 0 (.take true 1 (.take true 2 (.take false 3 (.take true 4 (.take false 5 (.take true 6 (.take false 7 (.alt false 8 ((.of [36,40,44,50,54,56])) (.alt false 12 ((.of [34,36,40,44,54,56])) .non)))))))))) [14] [1,2,3,4,5,6,7,8,9] λ_=>?_;obtain⟨⟨re,rx⟩,hre⟩:∃w,w=R.read Y.S.N a.block a.row a.slot a.mask:=⟨_,rfl⟩;rw[<- hre]at hge;dsimp only at hge;refine J.join (α:=Nat) (λx=>[si 12 rx,⟨11,pp x,10, .tt⟩,⟨9,pp (bd 0),9, .tt⟩,si 1 i,⟨4,pp (bz 0),8, .tt⟩]) (λx=>[.hp F,U1 f n t l p d Y,J5 p n t l Y.S,d8 n Y.S.N,TlA t Y.S.t,TbA l Y.S.T,K8 d Y.L, .pt (bz 0) 31 (j8 zeros16), .pt (bd 0) 141 [iI a.block,iI a.row,iI a.slot,iI a.mask,iI a.seq,iI a.role], .pt x 135 (enL re)]) (λhj=>?_) (λx=>?_)
     ·refine J.q λ_=>?_;refine J.alts ?_ ?_
      ·refine J.qp (a3W n Y.S.N hN hr a.block a.row a.slot a.mask (by omega) (by omega)) [3] λ_=>?_;rw[<- hre];refine J.qn 7 λbe=>?_;exact J.goto [0,1,2,3,4,5,6,7,9,10] (hj (be 0)) ⟨rfl,rfl,rfl,rfl,rfl,trivial⟩ rfl rfl
      ·refine J.qn 1 λbe=>?_;refine J.qp (a3W n Y.S.N hN hr a.block a.row a.slot a.mask (by omega) (by omega)) [3] λ_=>?_;rw[<- hre];refine J.qn 6 λ_=>?_;exact J.goto [0,1,2,3,4,5,6,7,9,10] (hj (be 0)) ⟨rfl,rfl,rfl,rfl,rfl,trivial⟩ rfl rfl
     refine J.qn 6 λ_=>?_;cases hx:(rx !=0)with
     | true=>
      have hx':rx≠0:=by simpa using hx
      rw[if_pos (.inl hx')]at hge;refine J.qT λ_=>?_;refine J.qr [1,2,3,4,5,6] λ_=>?_;rw[hrd,hge];exact⟨rfl,rfl⟩
     | false=>
      have hx':rx=0:=by simpa using hx
      refine J.qn 6 λ_=>?_;cases hy:(re.lpn !=i)with
      | true=>
       have hy':re.lpn≠i:=by simpa using hy
       rw[if_pos (.inr (.inl hy'))]at hge;refine J.qT λ_=>?_;refine J.qr [1,2,3,4,5,6] λ_=>?_;rw[hrd,hge];exact⟨rfl,rfl⟩
      | false=>
       have hy':re.lpn=i:=by simpa using hy
       refine J.qd (λ_ h5=>?_) λ_ h5=>?_
       ·have hz:re.seq≠a.seq:=by simpa using h5
        rw[if_pos (.inr (.inr hz))]at hge;refine J.qr [1,2,3,4,5,6] λ_=>?_;rw[hrd,hge];exact⟨rfl,rfl⟩
       ·have hz:re.seq=a.seq:=by simpa using h5
        rw[if_neg (by rw[hx',hy',hz];simp)]at hge;refine J.qr [1,2,3,4,5,6] λ_=>?_;rw[hrd,hge];exact⟨rfl,rfl⟩
  ·have hi:decide (i<0)=true:=by simpa using hb
   rw[hi];refine J.q λ_=>?_;refine J.v (.bool false) rfl rfl (λhg a w he hw=>by simp[G.on]at hg) ?_;simp only[decide_eq_true_eq]at hi;rw[if_pos (.inl hi)]at hrd;refine J.qT λ_=>?_;refine J.qr [1,2,3,4,5,6] λ_=>?_;rw[hrd];exact⟨rfl,rfl⟩
theorem b2R (L:List En):dkN L (L.length:Int)=L.length:=by unfold dkN;omega
theorem a4F:∀(f:Nat) (S:Dv) (l:List En),(Dv.write f S l).2.1<=l.length
 | 0,S,l=>by show(0:Int)<=(l.length:Int);omega
 | f+1,S,l=>by
  rw[Dv.write_succ];have hf:=Dv.fit_le S.at1 l;split
  ·show(0:Int)<=(l.length:Int);omega
  split
  ·show(0:Int)<=(l.length:Int);omega
  split
  ·show(0:Int)<=(l.length:Int);omega
  split
  ·show(0:Int)<=(l.length:Int);omega
  split
  ·show(S.at1.fit l:Int)<=(l.length:Int);omega
  split
  ·show(0:Int)<=(l.length:Int);omega
  ·exact a4F f _ l
theorem a3p (f p n t l d:Nat) (Z:Fv) (k m:Nat) (hO:Z.Ok (Fv.cW+k) m) (hm:m<=1000):FP 67 [pp f] (FvP f p n t l d Z)
  (Ps (iI Z.writes.2) (FvP f p n t l d Z.writes.1)):=by
 have hlen:=hO.len;have hQ1:Z.S.Ok (Dv.costM+(8*Dv.fuel+k)) m:=hO.dv.less (by unfold Fv.cW;omega);have hr:=Dv.room_keep hQ1;have hw:Z.writes=(let r:=Z.S.room
  if r.2≠0 then({Z with S:=r.1}.told r.2,r.2)
  else
   let w:=r.1.pen Z.L
   ({Z with S:=w.1,L:=H1 Z.L (Z.L.take w.2.1.toNat)}.told w.2.2,w.2.2)):=rfl
 refine FE [2] Tryz.func67 λX F hX=>?_;refine J.p (.of [0,4,8,13,16,20,24,29,32,36,40,45,48,52,56,61,67,68]) [16,17] [1,6] λ_=>?_;refine J.qp (X1 n t l p Z.S _ m hQ1 hm) [2,3,4,5] λ_=>?_;dsimp only at hw;generalize Z.S.room=W at hw hr ⊢;obtain⟨P,er⟩:=W;dsimp only at hw hr ⊢;rw[show U1 f n t l p d Z=U1 f n t l p d {Z with S:=P}from rfl];refine J.qd (λ_ h2=>?_) λ_ h2=>?_
 ·simp only[bne_iff_ne,ne_eq]at h2;rw[if_pos h2]at hw;refine J.qp (a4j f n t l p d {Z with S:=P} er) [1] λ_=>?_;refine J.qr [1,2,3,4,5,6] λ_=>?_;rw[hw];exact⟨rfl,rfl⟩
 simp only[bne_eq_false_iff_eq]at h2;rw[if_neg (by rw[h2];decide)]at hw;refine J.p (.of [0,4,8,13,16,20,24,29,34,38,40]) [10] [1,2,3,4,5,6] λ_=>?_;refine J.qp (a7l d Z.L) [6] λ_=>?_;refine J.qc (a7m d Z.L (by omega) Z.L.length) [6] λ_=>?_;rintro v As ⟨a,c,rfl,rfl⟩;refine⟨_,rfl,stq,?_⟩;rw[b2R,List.take_of_length_le (Nat.le_refl _)];refine J.know (λh' s=>C2 (show C9 _ _ a Z.L.length c _ _ from s.get (i:=7) rfl)) λhcap=>?_;rw[a0T];have hpb:0<=(P.pen Z.L).2.1/\(P.pen Z.L).2.1<=7:=W5 _ _ _;have hple:=a4F Dv.fuel P Z.L;have hple:(P.pen Z.L).2.1<=Z.L.length:=hple;refine J.q λ_=>?_;refine J.ca hX (by kernel_rfl) (R6 p n t l P _ m hr.1 (c8 135 19 a Z.L.length c (c9 Z.L)) (oad a) Z.L.length c Z.L (w7 135 19 a Z.L.length c (c9 Z.L)) rfl (by omega) hO.dat) [2,3,4,5,7] 0 rfl rfl rfl rfl rfl rfl (λ_=>rfl) ?_;refine cpq ⟨_,rfl,trivial,?_⟩;generalize P.pen Z.L=W at hw hpb hple ⊢;obtain⟨Q,kk,er2⟩:=W;dsimp only at hw hpb hple ⊢;obtain⟨v,rfl⟩:=Int.eq_ofNat_of_zero_le hpb.1;rw[Int.toNat_natCast]at hw;have hvl:v<=Z.L.length:=by omega
 have hRd:Rd (c8 135 19 a Z.L.length c (c9 Z.L)) (oad a) 19 v (c9 (Z.L.take v)):=by
  have:=(w7 135 19 a Z.L.length c (c9 Z.L)).take v hvl
  rwa [P9]at this
 refine J.pn 6 (.of [0,4,8,13,16,20,24,30]) [] [1,2,3,4,5] λ_ _=>?_;refine J.vT (.slice (oad a) v c) rfl rfl (λhg aa w he hC=>T7 tk rfl rfl rfl he rfl rfl rfl rfl (by omega)) ?_;refine J.qc (b1d d Z.L (by omega) (c8 135 19 a Z.L.length c (c9 Z.L)) (oad a) v c (Z.L.take v) hRd (by rw[List.length_take];omega) (by omega)) [6,7] λ_=>?_;rintro v2 As ⟨rfl,rfl⟩;refine⟨_,rfl,stq,?_⟩;rw[show U1 f n t l p d {Z with S:=P}=U1 f n t l p d {Z with S:=Q,L:=H1 Z.L (Z.L.take v)}from rfl];refine J.qc (a4j f n t l p d {Z with S:=Q,L:=H1 Z.L (Z.L.take v)} er2) [1] λ_=>?_;rintro v2 As ⟨rfl,rfl⟩;refine⟨_,rfl,trivial,?_⟩;refine J.qr [1,2,3,4,5,6] λ_=>?_;rw[hw];exact⟨rfl,rfl⟩
theorem a5w (f p n t l d:Nat) (Z:Fv) (k m:Nat) (hO:Z.Ok (Fv.cW+(1+k)) m) (hm:m<=1000) (e:En) (hd:e.data.length=16):FP 84 [pp f,enV e] (FvP f p n t l d Z)
  (Ps (iI (Z.waits e).2) (FvP f p n t l d (Z.waits e).1)):=by
 have hwt:Z.waits e=(if Z.ask.off=true then(Z.ask,9)
  else if e.lpn<0\/e.lpn>=Z.ask.lg then(Z.ask,3)
  else if(Z.ask.L.length:Int)>=Z.ask.S.slots then
   let w:=Z.ask.writes
   if w.2≠0 then w else(w.1.put e,0)
  else(Z.ask.put e,0)):=rfl
 have hlen:=hO.len;refine FE [2,0] Tryz.func84 λX F hX=>?_;refine J.q λbz=>?_;refine J.cb (I8 f n t l p d Z) [1,3] ?_;refine cpq ⟨_,rfl,trivial,?_⟩;have hOY:=hO.ask;obtain⟨Y,hY⟩:∃Y,Y=Z.ask:=⟨_,rfl⟩;have e1:Z.S=Y.S:=by rw[hY];rfl
 have e2:Z.L=Y.L:=by rw[hY];rfl
 rw[<- hY]at hwt hOY;rw[<- hY,e1,e2];rw[e2]at hlen;have hN:=hOY.dv.gd.ok;cases ho:Y.off with
 | true=>
  rw[ho,if_pos rfl]at hwt;refine J.qT λ_=>?_;refine J.qr [1,2,3,4,5,6] λ_=>?_;rw[hwt];exact⟨rfl,rfl⟩
 | false=>
  rw[ho,if_neg Bool.false_ne_true]at hwt;refine J.qF λ_=>?_;refine J.pq (.of [0,5,8,12,16,21,24,30,32,36]) [] [1,2,3,4,5,6,7] λ_ _=>?_;have hput:∀W:{W:Fv//Z.waits e=(W.put e,0)/\W.L.length<=200/\0<=W.nx/\W.nx<=4611686018427387904},Z.waits e=(W.1.put e,0):=λW=>W.2.1;refine J.gcase hX rfl rfl rfl stq (λhb=>?_) (λhb=>?_)
  ·have hi:decide (e.lpn<0)=false:=by simpa using hb
   rw[hi];refine J.qp (P4 f n t l p d Y hN) [1,3] λ_=>?_;simp only[decide_eq_false_iff_not]at hi;refine J.qd (λ_ h1=>?_) λ_ h1=>?_
   ·simp only[Bool.false_or,ge_iff_le,decide_eq_true_eq]at h1;rw[if_pos (.inr h1)]at hwt;refine J.qr [1,2,3,4,5,6] λ_=>?_;rw[hwt];exact⟨rfl,rfl⟩
   simp only[Bool.false_or,ge_iff_le,decide_eq_false_iff_not]at h1;rw[if_neg (by omega)]at hwt;have hbb:Y.S.t.b<=1000:=by have:=hOY.dv.t.b;have:=hN.bd16;omega
   refine J.p (.of [0,4,8,13,20,24,28,33,18,38,40]) [] [1,2,3,4,5,6,7] λ_=>?_;refine J.qp (a7l d Y.L) [6] λ_=>?_;refine J.qp (a4X p n t l Y.S hbb hOY.dv.t.len) [2,3,4,5] λ_=>?_;refine J.q λ_=>?_;refine J.join (α:={W:Fv//Z.waits e=(W.put e,0)/\W.L.length<=200/\0<=W.nx/\W.nx<=4611686018427387904}) (λ_=>[⟨0,pp f,2, .tt⟩,⟨3,pp (bz 0),8, .tt⟩]) (λW=>[.hp F,U1 f n t l p d W.1,J5 p n t l W.1.S,d8 n W.1.S.N,TlA t W.1.S.t,TbA l W.1.S.T,K8 d W.1.L, .pt (bz 0) 135 (enL e)]) (λhj=>?_) (λW=>?_)
   ·refine J.qd (λ_ h2=>?_) λ_ h2=>?_
    ·simp only[ge_iff_le,decide_eq_true_eq]at h2;rw[if_pos h2]at hwt;have hkw:=Fv.writes_keep hOY;refine J.qp (a3p f p n t l d Y (1+k) m hOY hm) [1,2,3,4,5,6] λ_=>?_;dsimp only at hwt;generalize Y.writes=w at hwt hkw ⊢;obtain⟨V,er⟩:=w;dsimp only at hwt hkw ⊢;refine J.qd (λ_ h3=>?_) λ_ h3=>?_
     ·simp only[bne_iff_ne,ne_eq]at h3;rw[if_pos h3]at hwt;refine J.qr [1,2,3,4,5,6] λ_=>?_;rw[hwt];exact⟨rfl,rfl⟩
     ·simp only[bne_eq_false_iff_eq]at h3;rw[if_neg (by rw[h3];decide)]at hwt;have hnx:=hkw.1.nx;refine J.qn 1 λ_=>?_;exact J.goto [0,1,2,3,4,5,6,7] (hj ⟨V,hwt,hkw.1.len,by omega,by omega⟩) ⟨rfl,rfl,trivial⟩ rfl rfl
    ·simp only[ge_iff_le,decide_eq_false_iff_not]at h2;rw[if_neg h2]at hwt;have hnx:=hOY.nx;refine J.qn 1 λ_=>?_;exact J.goto [0,1,2,3,4,5,6,7] (hj ⟨Y,hwt,hlen,by omega,by omega⟩) ⟨rfl,rfl,trivial⟩ rfl rfl
   obtain⟨W,hw1,hw2,hw3,hw4⟩:=W;dsimp only;refine J.p (.of [0,4,8,13,17,22]) [] [1,2,3,4,5,7] λ_=>?_;refine J.qp (a7k d W.L (by omega) {e with seq:=W.nx}) [6] λ_=>?_;refine J.qr [1,2,3,4,5,6] λ_=>?_;rw[hw1];exact⟨rfl,rfl⟩
  ·have hi:decide (e.lpn<0)=true:=by simpa using hb
   rw[hi];refine J.q λ_=>?_;refine J.vT (.bool false) rfl rfl (λhg a w he hC=>by simp[G.on]at hg) ?_;simp only[decide_eq_true_eq]at hi;rw[if_pos (.inl hi)]at hwt;refine J.qT λ_=>?_;refine J.qr [1,2,3,4,5,6] λ_=>?_;rw[hwt];exact⟨rfl,rfl⟩
theorem a1W (f p n t l d:Nat) (Z:Fv) (k m:Nat) (hO:Z.Ok (Fv.cW+(1+k)) m) (hm:m<=1000) (i:Int) (x:List UInt8) (hx:x.length=16):FP 36 [pp f,iI i,a2D x] (FvP f p n t l d Z)
  (λv As=>v=iI (Z.write i x).2/\As=FvP f p n t l d (Z.write i x).1):=by
 refine FE [2,0,0] Tryz.func36 λX F hX=>?_;refine J.qp (a5w f p n t l d Z k m hO hm ⟨i,0,1,x⟩ hx) [1,2,3,4,5,6] λ_=>?_;exact J.qx [1,2,3,4,5,6]
theorem a7g (f p n t l d:Nat) (Z:Fv) (k m:Nat) (hO:Z.Ok (Fv.cW+(1+k)) m) (hm:m<=1000) (i:Int):FP 37 [pp f,iI i] (FvP f p n t l d Z)
  (λv As=>v=iI (Z.trim i).2/\As=FvP f p n t l d (Z.trim i).1):=by
 refine FE [2,0] Tryz.func37 λX F hX=>?_;refine J.qp (a5w f p n t l d Z k m hO hm ⟨i,0,2,zeros16⟩ rfl) [1,2,3,4,5,6] λ_=>?_;exact J.qx [1,2,3,4,5,6]
theorem a5y (f p n t l d:Nat) (Z:Fv) (k m:Nat) (hO:Z.Ok (Fv.cW*200+k) m) (hm:m<=1000):FP 21 [pp f] (FvP f p n t l d Z)
  (λv As=>v=iI Z.flush.2/\As=FvP f p n t l d Z.flush.1):=by
 have hfl:Z.flush=(if Z.ask.off=true then(Z.ask,9)else Fv.flushGo Z.ask.L.length Z.ask):=rfl;have hlen:=hO.len;refine FE [2] Tryz.func21 λX F hX=>?_;refine J.qp (I8 f n t l p d Z) [1,3] λ_=>?_;have hOY:=hO.ask;obtain⟨Y,hY⟩:∃Y,Y=Z.ask:=⟨_,rfl⟩;have e1:Z.S=Y.S:=by rw[hY];rfl
 have e2:Z.L=Y.L:=by rw[hY];rfl
 rw[<- hY]at hfl hOY;rw[<- hY,e1,e2];rw[e2]at hlen;cases ho:Y.off with
 | true=>
  rw[ho,if_pos rfl]at hfl;refine J.qT λ_=>?_;refine J.qr [1,2,3,4,5,6] λ_=>?_;rw[hfl];exact⟨rfl,rfl⟩
 | false=>
  rw[ho,if_neg Bool.false_ne_true]at hfl;refine J.qF λ_=>?_;have hmul:Fv.cW*Y.L.length<=Fv.cW*200:=Nat.mul_le_mul_left _ hlen;refine J.q λ_=>?_;refine J.l (α:=(Nat×Fv)) (λz=>z.2.Ok (Fv.cW*z.1+k) m/\z.2.L.length<=z.1/\Fv.flushGo z.1 z.2=Z.flush) (λz=>[⟨0,pp f,2, .tt⟩]) [1,2,3,4,5,6] (λz=>FvP f p n t l d z.2) (λz=>z.1) ((Y.L.length,Y)) (⟨hOY.less (by dsimp only;omega),Nat.le_refl _,hfl.symm⟩) λz hI=>?_;obtain⟨j,V⟩:=z;dsimp only at hI ⊢;obtain⟨hV,hj,hw⟩:=hI;refine J.qp (a7l d V.L) [6] λ_=>?_;refine J.qd (λ_ h1=>?_) λ_ h1=>?_
  ·simp only[gt_iff_lt,decide_eq_true_eq]at h1;have hL0:V.L.length≠0:=by omega
   obtain⟨j,rfl⟩:∃i,j=i+1:=⟨j-1,by omega⟩;rw[Fv.flushGo,if_neg hL0]at hw;have hV1:V.Ok (Fv.cW+(Fv.cW*j+k)) m:=hV.less (by rw[Nat.mul_succ];omega);have hkw:=Fv.writes_keep hV1;refine J.qp (a3p f p n t l d V _ m hV1 hm) [1,2,3,4,5,6] λ_=>?_;dsimp only at hw;generalize V.writes=w at hw hkw ⊢;obtain⟨U,er⟩:=w;dsimp only at hw hkw ⊢;refine J.qd (λ_ h2=>?_) λ_ h2=>?_
   ·simp only[bne_iff_ne,ne_eq]at h2;rw[if_pos h2]at hw;refine J.qr [1,2,3,4,5,6] λ_=>?_;rw[<- hw];exact⟨rfl,rfl⟩
   ·simp only[bne_eq_false_iff_eq]at h2;rw[if_neg (by rw[h2];decide)]at hw;have:=hkw.2.2.2 h2 hL0;refine J.q λ_=>?_;refine J.n ((j,U)) (⟨hkw.1,by dsimp only;omega,hw⟩) (by dsimp only;omega) [0,1,2,3,4,5,6]
  ·simp only[gt_iff_lt,decide_eq_false_iff_not]at h1;have hz:Fv.flushGo j V=(V,0):=by
    cases j with
    | zero=>rfl
    | succ j=>rw[Fv.flushGo,if_pos (by omega)]
   refine J.qr [1,2,3,4,5,6] λ_=>?_;rw[<- hw,hz];exact⟨rfl,rfl⟩
theorem a7h (f p n t l d:Nat) (Z:Fv) (k m:Nat) (hO:Z.Ok (Dv.costS+k) m) (hm:m<=1000):FP 19 [pp f] (FvP f p n t l d Z)
  (λv As=>v=iI Z.tick.2/\As=FvP f p n t l d Z.tick.1):=by
 have htk:Z.tick=(if Z.ask.off=true then(Z.ask,9)else({Z.ask with S:=(Z.ask.S.step 4).1}.told (Z.ask.S.step 4).2.2,(Z.ask.S.step 4).2.2)):=rfl;refine FE [2] Tryz.func19 λX F hX=>?_;refine J.qp (I8 f n t l p d Z) [1,3] λ_=>?_;have hOY:=hO.ask;obtain⟨Y,hY⟩:∃Y,Y=Z.ask:=⟨_,rfl⟩;have e1:Z.S=Y.S:=by rw[hY];rfl
 have e2:Z.L=Y.L:=by rw[hY];rfl
 rw[<- hY]at htk hOY;rw[<- hY,e1,e2];cases ho:Y.off with
 | true=>
  rw[ho,if_pos rfl]at htk;refine J.qT λ_=>?_;refine J.qr [1,2,3,4,5,6] λ_=>?_;rw[htk];exact⟨rfl,rfl⟩
 | false=>
  rw[ho,if_neg Bool.false_ne_true]at htk;refine J.qF λ_=>?_;refine J.p (.of [0,4,8,13,16,20,24,29,32,36,40,45,48,52,56,61,66,68,72,76,80,84]) [21] [1,6] λ_=>?_;refine J.qp (a6Z n t l p Y.S _ m hOY.dv hm 4) [2,3,4,5] λ_=>?_;generalize Y.S.step 4=w at htk ⊢;obtain⟨V,nn,er⟩:=w;dsimp only at htk ⊢;rw[show U1 f n t l p d Y=U1 f n t l p d {Y with S:=V}from rfl];refine J.qp (a4j f n t l p d {Y with S:=V} er) [1] λ_=>?_;refine J.qr [1,2,3,4,5,6] λ_=>?_;rw[htk];exact⟨rfl,rfl⟩
theorem b0R (f p n t l d:Nat) (Z:Fv) (k m:Nat) (hO:Z.Ok k m):FP 20 [pp f] (FvP f p n t l d Z)
  (λv As=>v= .bool Z.whole.2/\As=FvP f p n t l d Z.whole.1):=by
 have hwh:Z.whole=(if Z.ask.off=true then(Z.ask,false)else({Z.ask with S:=Z.ask.S.seen},Z.ask.S.seen.leftN==0)):=rfl;refine FE [2] Tryz.func20 λX F hX=>?_;refine J.qp (I8 f n t l p d Z) [1,3] λ_=>?_;have hOY:=hO.ask;obtain⟨Y,hY⟩:∃Y,Y=Z.ask:=⟨_,rfl⟩;have e1:Z.S=Y.S:=by rw[hY];rfl
 have e2:Z.L=Y.L:=by rw[hY];rfl
 rw[<- hY]at hwh hOY;rw[<- hY,e1,e2];have hbd:=hOY.dv.gd.ok.bd16;have htd:=hOY.dv.t.d;cases ho:Y.off with
 | true=>
  rw[ho,if_pos rfl]at hwh;refine J.qT λ_=>?_;refine J.qr [1,2,3,4,5,6] λ_=>?_;rw[hwh];exact⟨rfl,rfl⟩
 | false=>
  rw[ho,if_neg Bool.false_ne_true]at hwh;refine J.qF λ_=>?_;refine J.qp (M4 n Y.S.N) [3] λ_=>?_;refine J.q λ_=>?_;refine J.l (α:=(Nat×Tl)) (λz=>z.1<=Y.S.N.dies/\(List.range z.1).foldl (λt (d:Nat)=>if Y.S.N.deadAt d then t.die d else t) Y.S.t=z.2/\z.2.Fit Y.S.N) (λz=>[si 13 z.1,si 12 Y.S.N.dies,⟨0,pp f,2, .tt⟩]) [4] (λz=>[TlA t z.2]) (λz=>Y.S.N.dies-z.1) ((0,Y.S.t)) (⟨Nat.zero_le _,rfl,hOY.dv.t⟩) λz hI=>?_;obtain⟨i,U⟩:=z;dsimp only at hI ⊢;obtain⟨hd,hfo,hU⟩:=hI;refine J.qd (λ_ h1=>?_) λ_ h1=>?_
  ·simp only[decide_eq_true_eq,Int.ofNat_lt]at h1;have hsu:(List.range (i+1)).foldl (λt (d:Nat)=>if Y.S.N.deadAt d then t.die d else t) Y.S.t=if Y.S.N.deadAt i then U.die i else U:=by rw[List.range_succ,List.foldl_append,hfo];rfl
   refine J.qp (a1L n Y.S.N hOY.dv.gd.ok i) [3] λ_=>?_;refine J.qd (λ_ h2=>?_) λ_ h2=>?_
   ·rw[if_pos h2]at hsu;refine J.qp (W9 t U i) [4] λ_=>?_;refine J.q λ_=>?_;refine J.n ((i+1,U.die i)) (⟨by dsimp only;omega,hsu,hU.die i⟩) (by dsimp only;omega) [0,1,2,3,4,5,6]
   ·rw[if_neg (by rw[h2];decide)]at hsu;refine J.q λ_=>?_;refine J.n ((i+1,U)) (⟨by dsimp only;omega,hsu,hU⟩) (by dsimp only;omega) [0,1,2,3,4,5,6]
  simp only[decide_eq_false_iff_not,Int.ofNat_lt]at h1;obtain rfl:i=Y.S.N.dies:=by omega
  have hseen:Y.S.seen={Y.S with t:=U}:=by unfold Dv.seen Dv.seeDead;rw[htd,hfo]
  obtain⟨Q,hQ⟩:∃Q,Q=Y.S.seen:=⟨_,rfl⟩;have hQO:Q.Ok k m:=by rw[hQ];exact hOY.dv.seen
  have eT:Y.S.T=Q.T:=by rw[hQ];rfl
  have eU:U=Q.t:=by rw[hQ,hseen]
  rw[eT,eU];refine J.p (.of [0,4,8,13,16,20,24,29,34,36,40]) [10] [1,2,3,4,5,6] λ_=>?_;refine J.qp (a7a t l Q k m hQO) [4,5] λ_=>?_;refine J.qr [1,2,3,4,5,6] λ_=>?_;rw[hwh,<- hQ];refine⟨rfl,?_⟩;unfold FvP;dsimp only;rw[show J5 p n t l Y.S=J5 p n t l Q from by rw[hQ];rfl,show d8 n Y.S.N=d8 n Q.N from by rw[hQ];rfl];rfl
theorem Tl.seeDead_succ (N:Nand) (t:Tl) (i:Nat):(List.range (i+1)).foldl (λt (d:Nat)=>if N.deadAt d then t.die d else t) t=if N.deadAt i then((List.range i).foldl (λt (d:Nat)=>if N.deadAt d then t.die d else t) t).die i else(List.range i).foldl (λt (d:Nat)=>if N.deadAt d then t.die d else t) t:=by rw[List.range_succ,List.foldl_append];rfl
theorem Tl.ofB_succ (N:Nand) (t:Tl) (b i:Nat):(List.range (i+1)).foldl (Tl.ofD N b) t=Tl.ofD N b ((List.range i).foldl (Tl.ofD N b) t) i:=by rw[List.range_succ,List.foldl_append];rfl
theorem Tl.of_succ (N:Nand) (t:Tl) (i:Nat):(List.range (i+1)).foldl (Tl.ofB N) t=Tl.ofB N ((List.range i).foldl (Tl.ofB N) t) i:=by rw[List.range_succ,List.foldl_append];rfl
theorem b4E (n:Nat) (N:Nand) (hN:N.Ok):FP 76 [pp n] [d8 n N] (λv As=>∃q,v=pp q/\As=[d8 n N,TlA q (Tl.of N)]):=by
 have hbd:=hN.bd16;refine FE [2] Tryz.func76 λX F hX=>?_;refine J.qp (M4 n N) [1] λ_=>?_;refine J.q λ_=>?_;refine J.ca hX (by kernel_rfl) (a5S N.dies N.blocks N.pages hN.geo) [] 3 rfl rfl rfl rfl rfl rfl (λ_=>rfl) ?_;rintro v As ⟨q,rfl,rfl⟩;refine⟨_,rfl,trivial,?_⟩;refine J.qF λ_=>?_;refine J.o (α:=Nat) 2 λg=>?_;refine J.q λ_=>?_;refine J.cl (λg:Nat=>TlP q (Tl.new N.dies N.blocks N.pages) g) (g) [2,3] ?_;refine J.q λ_=>?_;refine J.l (α:=(Nat×Tl)) (λz=>z.1<=N.dies/\(List.range z.1).foldl (λt (d:Nat)=>if N.deadAt d then t.die d else t) (Tl.new N.dies N.blocks N.pages)=z.2/\z.2.Fit N) (λz=>[si 17 z.1,si 16 N.dies,⟨0,pp n,2, .tt⟩,⟨3,pp q,3, .tt⟩]) [2] (λz=>[TlA q z.2]) (λz=>N.dies-z.1) ((0,Tl.new N.dies N.blocks N.pages)) (⟨Nat.zero_le _,rfl,Tl.Fit.new N⟩) λz hI=>?_;obtain⟨i,U⟩:=z;dsimp only at hI ⊢;obtain⟨hd,hfo,hU⟩:=hI;refine J.qd (λ_ h1=>?_) λ_ h1=>?_
 ·simp only[decide_eq_true_eq,Int.ofNat_lt]at h1;have hsu:=Tl.seeDead_succ N (Tl.new N.dies N.blocks N.pages) i;rw[hfo]at hsu;refine J.qp (a1L n N hN i) [1] λ_=>?_;refine J.qd (λ_ h2=>?_) λ_ h2=>?_
  ·rw[if_pos h2]at hsu;refine J.qp (W9 q U i) [2] λ_=>?_;refine J.q λ_=>?_;refine J.n ((i+1,U.die i)) (⟨by dsimp only;omega,hsu,hU.die i⟩) (by dsimp only;omega) [0,1,2,3]
  ·rw[if_neg (by rw[h2];decide)]at hsu;refine J.q λ_=>?_;refine J.n ((i+1,U)) (⟨by dsimp only;omega,hsu,hU⟩) (by dsimp only;omega) [0,1,2,3]
 simp only[decide_eq_false_iff_not,Int.ofNat_lt]at h1;obtain rfl:i=N.dies:=by omega
 have hsee:U=Dv.seeDead N (Tl.new N.dies N.blocks N.pages):=hfo.symm;have hUb:=hU.b;refine J.o (α:=Nat) 2 λg2=>?_;refine J.q λ_=>?_;refine J.cl (λg:Nat=>TlP q U g) (g2) [2,4] ?_;rw[hUb];refine J.q λ_=>?_;refine J.l (α:=(Nat×Tl)) (λz=>z.1<=N.blocks/\(List.range z.1).foldl (Tl.ofB N) U=z.2/\z.2.Fit N) (λz=>[si 32 z.1,si 31 N.blocks,⟨0,pp n,2, .tt⟩,⟨3,pp q,3, .tt⟩]) [2] (λz=>[TlA q z.2]) (λz=>N.blocks-z.1) ((0,U)) (⟨Nat.zero_le _,rfl,hU⟩) λz hI=>?_;obtain⟨b,T⟩:=z;dsimp only at hI ⊢;obtain⟨hb,hfb,hT⟩:=hI;refine J.qd (λ_ h3=>?_) λ_ h3=>?_
 ·simp only[decide_eq_true_eq,Int.ofNat_lt]at h3;have hsu:=Tl.of_succ N U b;rw[hfb]at hsu;have hTd:=hT.d;refine J.o (α:=Nat) 2 λg3=>?_;refine J.q λ_=>?_;refine J.cl (λg:Nat=>TlP q T g) (g3) [2,5] ?_;rw[hTd];refine J.q λ_=>?_;refine J.l (α:=(Nat×Tl)) (λz=>z.1<=N.dies/\(List.range z.1).foldl (Tl.ofD N b) T=z.2/\z.2.Fit N) (λz=>[si 40 z.1,si 39 N.dies,si 32 b,si 31 N.blocks,si 5 b,⟨0,pp n,2, .tt⟩,⟨3,pp q,3, .tt⟩]) [2] (λz=>[TlA q z.2]) (λz=>N.dies-z.1) ((0,T)) (⟨Nat.zero_le _,rfl,hT⟩) λz hI=>?_;obtain⟨d,V⟩:=z;dsimp only at hI ⊢;obtain⟨hd,hfd,hV⟩:=hI;refine J.qd (λ_ h4=>?_) λ_ h4=>?_
  ·simp only[decide_eq_true_eq,Int.ofNat_lt]at h4;have hsd:=Tl.ofB_succ N T b d;rw[hfd]at hsd;have hVb:=hV.b;have hod:Tl.ofD N b V d=if(L.has ((V.wore b (N.wornAt d b)).mask b) d&&decide ((N.next d b:Int)>0))=true then(V.wore b (N.wornAt d b)).clean b false else V.wore b (N.wornAt d b):=rfl
   rw[hod]at hsd;have hW:=hV.wore b (N.wornAt d b);refine J.qp (a6l n N hN d b) [1] λ_=>?_;refine J.qp (a3K q V (by omega) hV.len b (N.wornAt d b)) [2] λ_=>?_;obtain⟨Q,hQ⟩:∃Q,V.wore b (N.wornAt d b)=Q:=⟨_,rfl⟩;rw[hQ]at hsd hW ⊢;have hQb:=hW.b;refine J.qp (J6 q Q (by omega) hW.len b) [2] λ_=>?_;refine J.qp (a3i (Q.mask b) d) [] λ_=>?_;refine J.q λ_=>?_;refine J.gcase hX rfl rfl rfl trivial (λhb2=>?_) (λhb2=>?_)
   ·rw[hb2]at hsd ⊢;refine J.qp (a9Z n N hN d b) [1] λ_=>?_;refine J.qd (λ_ h5=>?_) λ_ h5=>?_
    ·simp only[Bool.true_and]at h5 hsd;rw[if_pos h5]at hsd;refine J.qp (a1k q Q (by omega) hW.len b false) [2] λ_=>?_;refine J.q λ_=>?_;refine J.n ((d+1,Q.clean b false)) (⟨by dsimp only;omega,hsd,hW.clean b false⟩) (by dsimp only;omega) [0,1,2,3,4,5]
    ·simp only[Bool.true_and]at h5 hsd;rw[if_neg (by rw[h5];decide)]at hsd;refine J.q λ_=>?_;refine J.n ((d+1,Q)) (⟨by dsimp only;omega,hsd,hW⟩) (by dsimp only;omega) [0,1,2,3,4,5]
   ·rw[hb2]at hsd ⊢;rw[Bool.false_and,if_neg Bool.false_ne_true]at hsd;refine J.q λ_=>?_;refine J.v (.bool false) rfl rfl (λhg a w he hw=>by simp[G.on]at hg) ?_;refine J.qF λ_=>?_;refine J.q λ_=>?_;refine J.n ((d+1,Q)) (⟨by dsimp only;omega,hsd,hW⟩) (by dsimp only;omega) [0,1,2,3,4,5]
  simp only[decide_eq_false_iff_not,Int.ofNat_lt]at h4;obtain rfl:d=N.dies:=by omega
  have hsu2:(List.range (b+1)).foldl (Tl.ofB N) U=V:=by rw[hsu,<- hfd];rfl
  refine J.q λ_=>?_;refine J.n ((b+1,V)) (⟨by dsimp only;omega,hsu2,hV⟩) (by dsimp only;omega) [0,1,2,3,4]
 simp only[decide_eq_false_iff_not,Int.ofNat_lt]at h3;obtain rfl:b=N.blocks:=by omega
 have hof:T=Tl.of N:=by rw[<- hfb,hsee];rfl
 refine J.qr [1,2] λ_=>?_;exact⟨q,rfl,by rw[<- hof];rfl⟩
end Go.Proofs.YtpohajhbfllbbaaGreat
