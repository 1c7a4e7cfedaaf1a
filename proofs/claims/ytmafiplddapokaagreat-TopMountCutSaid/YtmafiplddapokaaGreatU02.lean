/- Helpers. No condition. -/
import Derived.Test.YtmafiplddapokaaGreatU01
import Derived.WalkKit
import Derived.Laws.StructEq
set_option maxRecDepth 20000
set_option linter.all false
namespace Go.Proofs.YtmafiplddapokaaGreat
open Go Go.RowKit
section
variable {P : Program} {T : Tab} {E : Env} {L : List Atom} {n : Nat} {a : Act} {w : World}
theorem c2f {x:Operand} {s:Slot} {p:Prop} (he:EnvOK n E a) (h:ev E x=some s) (hv:Conj (a6V p s)) (hp:p):a.eval x=s.v:=by
 rw[C5 he h];obtain⟨k,v,t,g⟩:=s;unfold Slot.val;cases g with
 | tt=>rfl
 | when c=>simp only[a6V]at hv;simp only[G.on];rw[hv.1 hp]
theorem b2S {c x y:Operand} {r:LR} (he:EnvOK n E a) (h:b2T E c x y=some r) (hob:Conj r.ob):(do pure (if<- asBool (a.eval c)then a.eval x else a.eval y):Sem Value).run P w= .ok r.v w:=by
 unfold b2T at h;split at h
 ·rename_i kc cb tc gc hc;split at h
  ·split at h
   ·rename_i ka va ta ga ha;injection h with h;subst h;obtain⟨o1,o2⟩:=Conj.app hob;rw[evs he hc o1];cases cb
    ·simp[asBool,Act.eval]
    ·simp[asBool,c2f he ha o2 rfl]
   ·cases h
  ·split at h
   ·split at h
    ·rename_i kb vb tb gb hb;injection h with h;subst h;obtain⟨o1,o2⟩:=Conj.app hob;rw[evs he hc o1];cases cb
     ·simp[asBool,c2f he hb o2 rfl]
     ·simp[asBool,Act.eval]
    ·cases h
   ·cases h
 ·cases h
theorem a8u {b:Nat} {t:TypeId} {cs:List Value} (h:hl w b=some (.cells cs.toArray t (0,0))):Blk w b t cs.toArray:=h
theorem a1O {t:TypeId} {d:TypeDesc} (hd:P.underlying t=some d) (hb:a0i d=false) {b o:Nat} {v:Value} (hc:w.cell? ⟨b,o,none⟩=some v):(loadVar t ⟨b,o,none⟩).run P w= .ok v w:=by
 simp[loadVar,a5Y hd,hb,load,Sem.run,hc]
theorem a6u {t:TypeId} {d:TypeDesc} {f:TypeInfo} (hd:P.underlying t=some d) (hb:a0i d=true) (hf:P.info? t=some f) {b o:Nat} {ty:TypeId} {cs l:List Value} (hc:Blk w b ty cs.toArray) (hl:b0F cs o f.size=some l):(loadVar t ⟨b,o,none⟩).run P w= .ok (.agg l.toArray) w:=by
 obtain⟨h1,h2⟩:=a5V hl;refine run_loadVar_mid w b o t l d (a6p hc o l ?_) hd (by cases d<;>simp_all [a0i,TypeDesc.isRow]) (by rw[hf];simp[h2]);rw[h2,h1]
theorem a8d (hT:TabOK P T) {t:Nat} {s:Slot} {r:LR} (h:a4B T L t s=some r) (hob:Conj r.ob) (hr:∀i A,r.rd=i+1->L[i]? =some A->A.sat (hl w)):(Instr.loadAt t s.v).run P w= .ok r.v w:=by
 unfold a4B at h;split at h
 ·rename_i kk b o i gg;split at h
  ·rename_i b' ty cs hL;rw[J2]at hL;split at h
   ·rename_i fs sz z bb hg;obtain⟨d,fi,zv,ok⟩:=B4 (hT.get hg);obtain⟨fl,rfl,_⟩:=ok.row rfl;split at h
    ·rename_i l hl2;injection h with h;subst h;have hb:=hob.1;subst hb;have hA:=a8u (hr i _ rfl hL);have hsz:sz=fi.size:=ok.hsize;rw[hsz]at hl2;simp[Instr.loadAt,Instr.sureAddr,a6u ok.hd rfl ok.hf hA hl2]
    ·cases h
   ·rename_i x y sz z bb hg;obtain⟨d,fi,zv,ok⟩:=B4 (hT.get hg);obtain⟨e,fe,rfl,_⟩:=ok.arr rfl;split at h
    ·rename_i l hl2;injection h with h;subst h;have hb:=hob.1;subst hb;have hA:=a8u (hr i _ rfl hL);have hsz:sz=fi.size:=ok.hsize;rw[hsz]at hl2;simp[Instr.loadAt,Instr.sureAddr,a6u ok.hd rfl ok.hf hA hl2]
    ·cases h
   ·rename_i ti hn1 hn2 hg;obtain⟨d,fi,zv,ok⟩:=B4 (hT.get hg);split at h
    ·rename_i v hl2;injection h with h;subst h;have hb:=hob.1;subst hb;have hA:=a8u (hr i _ rfl hL);rw[J2]at hl2;have hagg:a0i d=false:=by
      have htd:=ok.htd;cases d<;>simp[a0i]<;>simp[a6O]at htd
      ·obtain⟨g,h1,h2⟩:=htd;obtain⟨td,sz,zz,bb⟩:=ti;simp at h2;subst h2;exact hn2 _ _ _ _ _ rfl
      ·obtain⟨g,h1,h2⟩:=htd;obtain⟨td,sz,zz,bb⟩:=ti;simp at h2;subst h2;exact hn1 _ _ _ _ rfl
     have hc:w.cell? ⟨b,o,none⟩=some v:=by rw[hA.cell];simpa using hl2
     simp[Instr.loadAt,Instr.sureAddr,a1O ok.hd hagg hc]
    ·cases h
   ·cases h
  ·cases h
 ·cases h
theorem a6v {x:Option Operand} {d k:Nat} {ob:List Prop} (he:EnvOK n E a) (h:a2h E x d=some (k,ob)) (hob:Conj ob):
  (x=none/\k=d)\/∃y ik z,x=some y/\a.eval y= .int ik z/\0<=z/\z.toNat=k:=by
 unfold a2h at h;split at h
 ·simp only[l6,C4]at h;exact .inl ⟨rfl,h.1.symm⟩
 ·rename_i y;split at h
  ·rename_i ks ik z t g hy;simp only[l6,C4]at h;obtain⟨rfl,rfl⟩:=h;exact .inr ⟨y,ik,z,rfl,evs he hy hob.2,hob.1,rfl⟩
  ·cases h
theorem a0L {x:Value} {ik:IntKind} {z:Int} (hx:x= .int ik z) (h0:0<=z) {y:Nat} (hy:z.toNat<=y) (c:BoundsCode):(Instr.sliceBound x y c).run P w= .ok z.toNat w:=by
 subst hx;simp only[Instr.sliceBound,asIntOf,Sem.run_bind,Sem.run_pure,Result.andThen_ok];rw[d8 ⟨h0,by omega⟩];rfl
theorem a3l {isS:Bool} {len cap l h dl:Nat} {lo hi:Option Operand} {ol oh:List Prop} (he:EnvOK n E a) (h1:a2h E lo 0=some (l,ol)) (h2:a2h E hi len=some (h,oh)) (o1:Conj ol) (o2:Conj oh) (hlh:l<=h) (hhc:h<=cap) (hd:dl=cap):
  (Instr.sliceBounds isS len dl (lo.map a.eval) (hi.map a.eval) none).run P w= .ok (l,h,cap) w:=by
 subst hd;rcases a6v he h1 o1 with⟨rfl,rfl⟩ | ⟨y,ik,z,rfl,e1,e2,e3⟩<;>rcases a6v he h2 o2 with⟨rfl,rfl⟩ | ⟨y',ik',z',rfl,e1',e2',e3'⟩
 ·simp[Instr.sliceBounds]
 ·simp[Instr.sliceBounds,a0L (P:=P) (w:=w) e1' e2' (by rw[e3'];exact hhc),e3']
 ·simp[Instr.sliceBounds,a0L (P:=P) (w:=w) e1 e2 (by rw[e3];exact hlh),e3]
 ·subst e3';simp[Instr.sliceBounds,a0L (P:=P) (w:=w) e1' e2' hhc,a0L (P:=P) (w:=w) e1 e2 (by rw[e3];exact hlh),e3]
theorem b1M (hT:TabOK P T) {t:Nat} {s:Slot} {lo hi:Option Operand} {r:LR} (he:EnvOK n E a) (h:a7d T E t lo hi s=some r) (hob:Conj r.ob):(Instr.sliceAt t s.v (lo.map a.eval) (hi.map a.eval) none).run P w= .ok r.v w:=by
 unfold a7d at h;split at h
 ·rename_i kk b o tg gg;split at h
  ·rename_i m esz sz z bb hg;split at h
   ·rename_i l ol hh oh h1 h2;injection h with h;subst h;obtain⟨oo,hlh,hhc,hlc,_⟩:=Conj.app hob;obtain⟨oo,o2⟩:=Conj.app oo;obtain⟨_,o1⟩:=Conj.app oo;obtain⟨d,fi,zv,ok⟩:=B4 (hT.get hg);obtain⟨e,fe,rfl,g1,g2⟩:=ok.arr rfl;simp only[Instr.sliceAt,Sem.run_bind,s8 ok.hd,Result.andThen_ok,Instr.sureAddr,Sem.run_pure,a3l (P:=P) (w:=w) (isS:=false) he h1 h2 o1 o2 hlh hhc rfl,J0 g1,g2]
    by_cases hm:m=l
    ·rcases hlc with rfl | hlc
     ·subst hm;simp
     ·omega
    ·simp[hm,Addr.add_none]
   ·cases h
  ·cases h
 ·rename_i kk b o len cap tg gg;split at h
  ·rename_i el esz sz z bb hg;split at h
   ·rename_i l ol hh oh h1 h2;injection h with h;subst h;obtain⟨oo,hlh,hhc,hlc,_⟩:=Conj.app hob;obtain⟨oo,o2⟩:=Conj.app oo;obtain⟨_,o1⟩:=Conj.app oo;obtain⟨d,fi,zv,ok⟩:=B4 (hT.get hg);obtain⟨fe,rfl,g1,g2⟩:=ok.slice rfl;simp only[Instr.sliceAt,Sem.run_bind,s8 ok.hd,Result.andThen_ok,Instr.slice,Sem.run_pure,a3l (P:=P) (w:=w) (isS:=true) he h1 h2 o1 o2 hlh hhc rfl,J0 g1,g2]
    by_cases hm:cap=l
    ·rcases hlc with rfl | hlc
     ·subst hm;simp
     ·omega
    ·simp[hm,Addr.add_none]
   ·cases h
  ·cases h
 ·cases h
theorem Y4 (he:EnvOK n E a):∀{xs:List Operand} {l:List Slot},slots E xs=some l->Conj (a1H l)->xs.map a.eval=vals l
 | [],l,h,_=>by simp only[slots,l6]at h;subst h;rfl
 | x::r,l,h,hv=>by
  simp only[slots]at h;split at h
  ·rename_i s l' h1 h2;injection h with h;subst h;obtain⟨v1,v2⟩:=Conj.app hv;simp only[n4,vals,evs he h1 v1,Y4 he h2 v2]
  ·cases h
theorem a9z {α:Type} (l xs:List α):a1L l 0 xs=a3o l xs:=by cases l<;>rfl
theorem a5W {α:Type}:∀{l:List α} {o:Nat} {x:α} {xs m:List α},a1L l o (x::xs)=some m->a1L (l.set o x) (o+1) xs=some m
 | [],0,x,xs,m,h=>by simp[a1L,a3o]at h
 | [],o+1,x,xs,m,h=>by simp[a1L]at h
 | y::r,0,x,xs,m,h=>by
  rw[a9z]at h;simpa only[a3o,a0H,a1L,a9z]using h
 | y::r,o+1,x,xs,m,h=>by
  simp only[a1L]at h;split at h
  ·rename_i l hl;simp only[R6,a1L,a5W hl];exact h
  ·cases h
theorem a9L (off:Nat):∀(xs:List Value) (k:Nat) (cs:Array Value) (m:List Value),a1L cs.toList (off+k) xs=some m->(xs.zipIdx k).foldl (λcs (c,j)=>cs.setIfInBounds (off+j) c) cs=m.toArray
 | [],k,cs,m,h=>by
  obtain⟨h1,h2⟩:=a2C h;simp at h1;subst h1;simp
 | x::xs,k,cs,m,h=>by
  rw[List.zipIdx_cons,A6];exact a9L off xs (k+1) _ m (by rw[<- Nat.add_assoc];simpa using a5W h)
theorem a4i {place place':Nat->Option (Nat×Nat)} (hp:∀i r,place i=some r->place' i=some r):∀{parts:List (Nat×Value)} {cs:Array Value} {m:List Value},a8m place cs.toList parts=some m->Instr.fill place' cs parts=some m.toArray
 | [],cs,m,h=>by simp only[a8m,l6]at h;subst h;simp[Instr.fill]
 | (i,v)::r,cs,m,h=>by
  simp only[a8m]at h;split at h
  ·rename_i off sz hpl;split at h
   ·rename_i cs' e1 e2;have e3:=C8 e1;obtain⟨e4,e5⟩:=a2C e2;simp only[Instr.fill,hp _ _ hpl];have:v.cells.size=sz:=by simpa using e3
    have hb:(decide (v.cells.size≠sz)||decide (off+v.cells.size>cs.size))=false:=by
     simp at e5;simp;omega
    have hb':¬(v.cells.size≠sz\/off+v.cells.size>cs.size):=by
     simp at e5;omega
    have hf:=a9L off v.cells.toList 0 cs cs' e2;have hf':Array.foldl (λcs x=>match x with | (c,j)=>cs.setIfInBounds (off+j) c) cs v.cells.zipIdx=cs'.toArray:=by
     rw[<- hf,<- Array.foldl_toList,Array.toList_zipIdx]
    simp only[this,H5,a2N,decide_false,D2];rw[d6 (by simp at e5 ⊢;omega)];rw[hf'];exact a4i hp (by simpa using h)
   ·cases h
  ·cases h
theorem a4a:∀{parts:List (Nat×Operand)} {l:List Slot},(parts.map (·.2)).map a.eval=vals l->parts.map (λ(i,x)=>(i,a.eval x))=a4y parts l
 | [],l,h=>by simp[a4y]
 | (i,x)::r,[],h=>by simp[vals]at h
 | (i,x)::r,s::l,h=>by
  simp only[n4,vals,Z6]at h;simp only[n4,a4y,h.1,a4a h.2]
theorem a7I:∀{fl:List Field} {fs:List (Nat×Nat×Bool)},fieldsOf P fl=some fs->(fl.mapM (λf=>do pure (f.offset,<- sizeOf f.type)):Sem (List (Nat×Nat))).run P w= .ok (fs.map λx=>(x.1,x.2.1)) w
 | [],fs,h=>by simp only[fieldsOf,l6]at h;subst h;simp
 | f::r,fs,h=>by
  simp only[fieldsOf]at h;split at h
  ·rename_i i d l h1 h2 h3;injection h with h;subst h;have:=a7I h3;simp only[List.mapM_cons,Sem.run_bind,J0 h1,Result.andThen_ok,Sem.run_pure,this,n4]
  ·cases h
theorem b1A (fs:List (Nat×Nat×Bool)) (i:Nat) (r:Nat×Nat) (h:a7J fs i=some r):((fs.map λx=>(x.1,x.2.1)).toArray[i]?)=some r:=by
 unfold a7J at h;rw[J2]at h;split at h
 ·rename_i off sz b e;simp[e,h]
 ·cases h
theorem b1O (hT:TabOK P T) {t:Nat} {parts:Array (Nat×Operand)} {r:LR} (he:EnvOK n E a) (h:b0G T E t parts.toList=some r) (hob:Conj r.ob):(Instr.build t (parts.map λ(i,x)=>(i,a.eval x))).run P w= .ok r.v w:=by
 unfold b0G at h;split at h
 ·rename_i fs sz z bb l hg hl;split at h
  ·rename_i cs hf;injection h with h;subst h;have hp:=a4a (Y4 he hl hob);obtain⟨d,fi,zv,ok⟩:=B4 (hT.get hg);obtain⟨fl,rfl,hfl⟩:=ok.row rfl;have hz:z=zv.cells.toList:=ok.hzero;subst hz;have hr:=a4i (place':=((fs.map λx=>(x.1,x.2.1)).toArray[·]?)) (b1A fs) hf;have hpl:(fl.mapM (λf=>do pure (f.offset,<- sizeOf f.type)):Sem (Array (Nat×Nat))).run P w= .ok (fs.map λx=>(x.1,x.2.1)).toArray w:=by
    rw[Array.mapM_eq_mapM_toList];simp only[map_eq_pure_bind,Sem.run_bind,a7I hfl,Result.andThen_ok,Sem.run_pure]
   simp only[Instr.build,Sem.run_bind,a3y ok.hf ok.hz,Result.andThen_ok,s8 ok.hd,hpl,Sem.run_pure,Q0,hp,hr]
  ·cases h
 ·rename_i m esz sz z bb l hg hl;split at h
  ·rename_i cs hf;injection h with h;subst h;have hp:=a4a (Y4 he hl hob);obtain⟨d,fi,zv,ok⟩:=B4 (hT.get hg);obtain⟨e,fe,rfl,g1,g2⟩:=ok.arr rfl;have hz:z=zv.cells.toList:=ok.hzero;subst hz;have hr:=a4i (place':=λi=>some (i*esz,esz)) (λ_ _ h=>h) hf;simp only[Instr.build,Sem.run_bind,a3y ok.hf ok.hz,Result.andThen_ok,s8 ok.hd,J0 g1,g2,Q0,hp,hr,Sem.run_pure]
  ·cases h
 ·cases h
end
section
variable {P : Program} {T : Tab} {E : Env} {L : List Atom} {n : Nat} {a : Act} {w : World}
theorem b2U (hT:TabOK P T) {b:Builtin} {ts:Array TypeId} {args:Array Operand} {r:LR} (he:EnvOK n E a) (h:b2V T E b ts.toList args.toList=some r) (hob:Conj r.ob) (type:TypeId) (consts:Array Bool):
  (builtin b ts type consts (args.map a.eval)).run P w= .ok (.value r.v) w:=by
 have hargs:∀{l:List Slot},slots E args.toList=some l->Conj (a1H l)->args.map a.eval=(vals l).toArray:=λh1 h2=>by
  apply Array.toList_inj.1;rw[Q0,Y4 he h1 h2]
 unfold b2V at h;split at h
 ·rename_i t rt kk ad n' c tg gg rs hts hs;split at h
  ·rename_i el esz sz z bb hg;injection h with h;subst h;obtain⟨d,fi,zv,ok⟩:=B4 (hT.get hg);obtain⟨fe,rfl,g1,g2⟩:=ok.slice rfl;have ht:ts[0]? =some t:=by rw[<- D5,hts];rfl
   have hx:(args.map a.eval)[0]? =some (.slice ad n' c):=by
    rw[<- D5,Q0];cases hal:args.toList with
    | nil=>rw[hal]at hs;simp[slots]at hs
    | cons x xs=>
     rw[hal]at hs;simp only[slots]at hs;split at hs
     ·rename_i s' l' h1 h2;injection hs with hs;injection hs with hs1 hs2;subst hs1;simp[evs he h1 hob]
     ·cases hs
   simp[builtin,Builtin.len_,ht,hx,s8 ok.hd,goInt]
  ·cases h
 ·rename_i t rt kk ad c m' tg gg rs hts hs;split at h
  ·rename_i el esz sz z bb hg;injection h with h;subst h;obtain⟨d,fi,zv,ok⟩:=B4 (hT.get hg);obtain⟨fe,rfl,g1,g2⟩:=ok.slice rfl;have ht:ts[0]? =some t:=by rw[<- D5,hts];rfl
   have hx:(args.map a.eval)[0]? =some (.slice ad c m'):=by
    rw[<- D5,Q0];cases hal:args.toList with
    | nil=>rw[hal]at hs;simp[slots]at hs
    | cons x xs=>
     rw[hal]at hs;simp only[slots]at hs;split at hs
     ·rename_i s' l' h1 h2;injection hs with hs;injection hs with hs1 hs2;subst hs1;simp[evs he h1 hob]
     ·cases hs
   simp[builtin,Builtin.cap_,ht,hx,s8 ok.hd,goInt]
  ·cases h
 ·rename_i hs;injection h with h;subst h;have:=hargs hs (by simp only[a1H,a1k];rw[m6];exact hob);simp[builtin,this,Builtin.min_,vals,Builtin.min2]
 ·rename_i hs;injection h with h;subst h;have:=hargs hs (by simp only[a1H,a1k];rw[m6];exact hob);simp[builtin,this,Builtin.max_,vals,Builtin.max2]
 ·cases h
theorem a2f {t:Nat} {s i:Slot} {r:LR} (h:a0z T t s i=some r) (hob:Conj r.ob):Conj (a1k s)/\Conj (a1k i):=by
 obtain⟨k,v,tg,g⟩:=s;obtain⟨k',v',tg',g'⟩:=i;unfold a0z at h;split at h<;>rename_i e1 e2
 ·split at h
  ·injection h with h;subst h;injection e1 with _ _ _ e1;injection e2 with _ _ _ e2;subst e1;subst e2;exact Conj.app hob.2.2
  ·cases h
 ·split at h
  ·injection h with h;subst h;injection e1 with _ _ _ e1;injection e2 with _ _ _ e2;subst e1;subst e2;exact Conj.app hob.2.2
  ·cases h
 ·cases h
theorem a8b (hT:TabOK P T) {o:Oper} {r:LR} (he:EnvOK n E a) (h:look T E L o.op=some r) (hob:Conj r.ob) (hr:∀i A,r.rd=i+1->L[i]? =some A->A.sat (hl w)):(execOp a.eval o).run P w= .ok (.value r.v) w:=by
 unfold look at h;unfold execOp;split at h<;>rename_i hop<;>simp only[hop]
 ·split at h
  ·rename_i s hs;injection h with h;subst h;simp[evs he hs hob]
  ·cases h
 ·split at h
  ·rename_i s hs;injection h with h;subst h;simp[evs he hs hob]
  ·cases h
 ·have:=b2S (P:=P) (w:=w) he h hob;simp only[Sem.run_bind,Sem.run_pure]at this ⊢
  revert this
  cases(asBool (a.eval _)).run P w with
  | ok b w'=>intro this;simp only[Result.andThen_ok]at this ⊢;injection this with h1 h2;rw[h1,h2]
  | halt x w'=>intro this;cases this
 ·split at h
  ·rename_i k p t g hs;injection h with h;subst h;simp[evs he hs hob]
  ·cases h
 ·split at h
  ·rename_i s s' h1 h2;split at h
   ·rename_i v ob hb;injection h with h;subst h;obtain⟨oo,v2⟩:=Conj.app hob;obtain⟨oo,v1⟩:=Conj.app oo;rw[evs he h1 v1,evs he h2 v2];have:=b8l (P:=P) (w:=w) hT hb oo;simp only[Sem.run_bind,this,Result.andThen_ok,Sem.run_pure]
   ·cases h
  ·cases h
 ·split at h
  ·rename_i s h1;split at h
   ·rename_i v ob hb;injection h with h;subst h;obtain⟨oo,v1⟩:=Conj.app hob;rw[evs he h1 v1];simp only[Sem.run_bind,b8H hb oo,Result.andThen_ok,Sem.run_pure]
   ·cases h
  ·cases h
 ·split at h
  ·rename_i k ik m t g k' sz z bb ti h1 h2 h3;injection h with h;subst h;obtain⟨oo,v1⟩:=Conj.app hob;rw[evs he h1 v1];obtain⟨d,fi,zv,ok⟩:=B4 (hT.get h2);obtain⟨d',fi',zv',ok'⟩:=B4 (hT.get h3);have:=ok.int rfl;subst this;simp[convert,s8 ok.hd,s8 ok'.hd,Conv.intToInt,a1Q oo]
  ·cases h
 ·split at h
  ·rename_i s hs;have hv:Conj (a1k s):=by
    unfold a2g at h
    (repeat' split at h)<;>first | (cases h;done) | (injection h with h;subst h;exact hob)
   rw[evs he hs hv];simp only[Sem.run_bind,a6S hT h,Result.andThen_ok,Sem.run_pure]
  ·cases h
 ·split at h
  ·rename_i s hs;have hv:Conj (a1k s):=by
    unfold a7e at h
    (repeat' split at h)<;>first | (cases h;done) | (injection h with h;subst h;exact hob)
   rw[evs he hs hv];simp only[Sem.run_bind,b1N hT h,Result.andThen_ok,Sem.run_pure]
  ·cases h
 ·split at h
  ·rename_i s h1;have hv:=a2f h hob;rw[evs he h1 hv.1];have:=a3p (P:=P) (w:=w) hT h hob;simp only[Act.eval,Sem.run_bind,this,Result.andThen_ok,Sem.run_pure]
  ·cases h
 ·split at h
  ·rename_i k v tg g s' h1 h2;have hv:=a2f h hob;rw[evs he h1 hv.1,evs he h2 hv.2];have:=a3p (P:=P) (w:=w) hT h hob;simp only[Sem.run_bind,this,Result.andThen_ok,Sem.run_pure]
  ·cases h
 ·split at h
  ·rename_i k vs t g hs;split at h
   ·rename_i v hv;injection h with h;subst h;rw[evs he hs hob];rw[J2]at hv;simp only[Instr.extract,Sem.run_bind];rw[<- D5,hv];rfl
   ·cases h
  ·cases h
 ·split at h
  ·rename_i s hs;have hv:Conj (a1k s):=by
    unfold a7d at h
    (repeat' split at h)<;>first | (cases h;done) | (injection h with h;subst h;exact(Conj.app (Conj.app (Conj.app hob).1).1).1)
   rw[evs he hs hv];have:=b1M (P:=P) (w:=w) hT he h hob;simp only[Sem.run_bind,O3,this,Result.andThen_ok,Sem.run_pure]
  ·cases h
 ·simp only[Sem.run_bind,b1O hT he h hob,Result.andThen_ok,Sem.run_pure]
 ·rename_i fn f1 c1;split at h
  ·rename_i l l' h1 h2;injection h with h;subst h;obtain⟨v1,v2⟩:=Conj.app hob;have e1:Array.map a.eval f1=(vals l).toArray:=by apply Array.toList_inj.1;rw[Q0,Y4 he h1 v1]
   have e2:Array.map a.eval c1=(vals l').toArray:=by apply Array.toList_inj.1;rw[Q0,Y4 he h2 v2]
   simp[Instr.makeFunc,e1,e2]
  ·cases h
 ·split at h
  ·rename_i s hs;have hv:Conj (a1k s):=by
    unfold a4B at h
    (repeat' split at h)<;>first | (cases h;done) | (injection h with h;subst h;exact hob.2)
   rw[evs he hs hv];simp only[Sem.run_bind,a8d hT h hob hr,Result.andThen_ok,Sem.run_pure]
  ·cases h
 ·have:=b2U (P:=P) (w:=w) hT he h hob o.type;simp[resolve,invoke,this]
 ·cases h
end
structure ER where
 v:Value
 tag:Nat
 L:List Atom
 ob:List Prop
 k:Nat
def a3x:Nat->List Value->List Value
 | 0,_=>[]
 | n+1,z=>z++a3x n z
def a3n {α:Type}:List Nat->List α->α->Option (List α×Nat)
 | k::_,[],y=>some ([y],k)
 | _::ks,x::r,y=>match a3n ks r y with
  | some (r',k)=>some (x::r',k)
  | none=>none
 | [],_,_=>none
def b2M:List Nat:=[1,2,3,4,5,6,7,8,9,10,11,12,13,14,15,16,17,18,19,20,21,22,23,24,25,26,27,28,29,30,31,32,33,34,35,36,37,38,39,40]
def a7i (T:Tab) (L:List Atom) (k t:Nat):Slot->Slot->Option ER
 | ⟨_, .pointer (some ⟨b,o,none⟩),i+1,g⟩,⟨_,v,_,g'⟩=>match J3 L i,T.get t with
  | some (.pt b' ty cs),some ⟨_,sz,_,_⟩=>match Nat.beq sz v.cells.toList.length,a1L cs o v.cells.toList with
   | true,some cs'=>match U3 L i (.pt b' ty cs')with
    | some L'=>some ⟨undef,0,L',(b=b')::(v.cells.toList.all (·.oneCell')=true)::(O4 g++O4 g'),k⟩
    | none=>none
   | _,_=>none
  | _,_=>none
 | _,_=>none
def a3b (T:Tab) (bs:Nat->Nat) (E:Env) (L:List Atom) (k t len:Nat) (parts:List (Nat×Operand)):Option ER:=match T.get t,slots E (parts.map (·.2))with
 | some ⟨.slice el esz,_,_,_⟩,some l=>match T.get el with
  | some ⟨_,sz,z,_⟩=>match Nat.beq sz z.length,Nat.ble (len*sz) 16777216,a8m (λi=>some (i*sz,sz)) (a3x len z) (a4y parts l)with
   | true,true,some cs=>match a3n b2M L (.pt (bs k) el cs)with
    | some (L',tg)=>some ⟨.slice (some ⟨bs k,0,none⟩) len len,tg,L',a1H l,k+1⟩
    | none=>none
   | _,_,_=>none
  | none=>none
 | _,_=>none
def eff (T:Tab) (bs:Nat->Nat) (E:Env) (L:List Atom) (k:Nat):Op->Option ER
 | .store t x y=>match ev E x,ev E y with
  | some s,some s'=>a7i T L k t s s'
  | _,_=>none
 | .alloc el=>match T.get el with
  | some ⟨_,_,z,_⟩=>match a3n b2M L (.pt (bs k) el z)with
   | some (L',tg)=>some ⟨.pointer (some ⟨bs k,0,none⟩),tg,L',[],k+1⟩
   | none=>none
  | none=>none
 | .box el x=>match ev E x with
  | some ⟨_,v,_,g⟩=>match a3n b2M L (.pt (bs k) el v.cells.toList)with
   | some (L',tg)=>some ⟨.pointer (some ⟨bs k,0,none⟩),tg,L',O4 g,k+1⟩
   | none=>none
  | none=>none
 | .buildSlice t len parts=>a3b T bs E L k t len parts.toList
 | .makeMap _ none=>match a3n b2M L (.ob (bs k) (.map #[] 0))with
  | some (L',tg)=>some ⟨.map (some (bs k)),tg,L',[],k+1⟩
  | none=>none
 | _=>none
theorem a1K {α:Type}:∀{ks:List Nat} {l m:List α} {y:α} {k:Nat},a3n ks l y=some (m,k)->m=l++[y]
 | k'::ks,[],m,y,k,h=>by simp only[a3n,l6,C4]at h;rw[<- h.1];rfl
 | k'::ks,x::r,m,y,k,h=>by
  simp only[a3n]at h;split at h
  ·rename_i r' k2 hr;simp only[l6,C4]at h;rw[<- h.1,a1K hr];rfl
  ·cases h
 | [],l,m,y,k,h=>by simp[a3n]at h
section
variable {P : Program} {T : Tab} {E : Env} {L : List Atom} {n : Nat} {a : Act} {w : World}
theorem b5l (h:Hl) (b:Nat) (o o':Obj):U4 (U4 h b o) b o'=U4 h b o':=by
 funext x;unfold U4;split<;>rfl
theorem b2Y {b o:Nat} {t:TypeId} {cs:List Value} (hb:Blk w b t cs.toArray) (v:Value):hl (w.setCell ⟨b,o,none⟩ v)=U4 (hl w) b (.cells (cs.set o v).toArray t (0,0)):=by
 funext x;unfold hl U4
 by_cases e:x=b
 ·subst e;have:=hb.set_ o v;rw[d8 rfl];unfold Blk at this;rw[this];simp
 ·rw[d6 e];simp[World.setCell,X9,Ne.symm e]
theorem a5i (w:World) (o:Obj):hl {w with heap:=w.heap.push o}=U4 (hl w) w.heap.size o:=by
 funext x;unfold hl U4;simp only[Array.getElem?_push]
theorem a5j (w:World):hl w w.heap.size=none:=by simp[hl]
theorem a8P {v:Value} (h:v.oneCell'=true) {p:Addr} {x:Value} (hc:w.cell? p=some x) (hf:w.frozen? p=false):(store p v).run P w= .ok () (w.setCell p v):=by
 cases v<;>first | (simp[Value.oneCell']at h;done) | simp[store,Sem.run,hc,hf]
theorem Y3 {b o:Nat} {t:TypeId}:∀(xs:List Value) (j:Nat) (w:World) (cs m:List Value),Blk w b t cs.toArray->a1L cs (o+j) xs=some m->xs.all (·.oneCell')=true->
  ∃w',(storeCells ⟨b,o,none⟩ xs j).run P w= .ok () w'/\hl w'=U4 (hl w) b (.cells m.toArray t (0,0))/\Ext w w'
 | [],j,w,cs,m,hb,hm,_=>by
  obtain⟨h1,_⟩:=a2C hm;simp at h1;subst h1;refine⟨w,rfl,?_,Ext.refl _⟩;funext x;unfold U4;split
  ·rename_i e;subst e;exact hb
  ·rfl
 | x::xs,j,w,cs,m,hb,hm,h1=>by
  simp only[List.all_cons,f7]at h1;have hlt:o+j<cs.length:=by have:=(a2C hm).2;simp at this;omega
  have hc:w.cell? ⟨b,o+j,none⟩=some cs[o+j]:=by rw[hb.cell];simp[hlt]
  have hrun:=a8P (P:=P) h1.1 hc (hb.frozen _);have hb':Blk (w.setCell ⟨b,o+j,none⟩ x) b t (cs.set (o+j) x).toArray:=by have:=hb.set_ (o+j) x;simpa using this
  obtain⟨w',r1,r2,r3⟩:=Y3 xs (j+1) _ _ m hb' (by rw[<- Nat.add_assoc];exact a5W hm) h1.2;refine⟨w',?_,?_,?_⟩
  ·simp only[storeCells,Addr.add_none,Sem.run_bind,hrun,Result.andThen_ok,r1]
  ·rw[r2,b2Y hb,b5l]
  ·exact Ext.trans (b:=w.setCell ⟨b,o+j,none⟩ x) ⟨rfl,rfl,rfl,by simp[World.setCell]⟩ r3
theorem b2g (hT:TabOK P T) {k t:Nat} {s s':Slot} {r:ER} (h:a7i T L k t s s'=some r) (hob:Conj r.ob) (hs:Sep L (hl w)):
  ∃w',(Instr.storeAt t s.v s'.v).run P w= .ok () w'/\r.v=undef/\Sep r.L (hl w')/\Ext w w'/\Conj (a1k s)/\Conj (a1k s'):=by
 unfold a7i at h;split at h
 ·rename_i kk b o i gg kk' v tg' gg';split at h
  ·rename_i b' ty cs td sz z bb hL hg;rw[J2]at hL;split at h
   ·rename_i cs' e1 e2;split at h
    ·rename_i L' hL';injection h with h;subst h;obtain⟨hb,h1,hvv⟩:=hob;subst hb;have hL2:=T8 hL';subst hL2;obtain⟨d,fi,zv,ok⟩:=B4 (hT.get hg);have hsz:sz=fi.size:=ok.hsize;have e3:=C8 e1;have hblk:Blk w b ty cs.toArray:=hs.pt hL;obtain⟨w',r1,r2,r3⟩:=Y3 (P:=P) v.cells.toList 0 w cs cs' hblk e2 h1;obtain⟨v1,v2⟩:=Conj.app hvv;refine⟨w',?_,rfl,?_,r3,v1,v2⟩
     ·have hne:v.cells.size=fi.size:=by rw[<- hsz,e3];simp
      simp only[Instr.storeAt,Instr.sureAddr,Sem.run_bind,Sem.run_pure,Result.andThen_ok,storeVar,J0 ok.hf];simp[hne,r1]
     ·rw[r2];exact hs.setPt cs' hL
    ·cases h
   ·cases h
  ·cases h
 ·cases h
theorem a8G (k:Nat) (z:List Value):(a3x k z).length=k*z.length:=by
 induction k with
 | zero=>simp[a3x]
 | succ k ih=>simp[a3x,ih,K6,a0G]
theorem a7k (z:List Value):∀(k i:Nat),i<k*z.length->(a3x k z)[i]? =z[i % z.length]?
 | 0,i,h=>by simp at h
 | k+1,i,h=>by
  rw[a3x,I9];split
  ·rename_i hi;rw[K4 hi]
  ·rename_i hi;have h':i-z.length<k*z.length:=by rw[K6]at h;omega
   rw[a7k z k _ h'];rw[<- Nat.mod_eq_sub_mod (by omega)]
theorem b4k (k:Nat) (z:Array Value):((Array.range (k*z.size)).map (z[· % z.size]!)).toList=a3x k z.toList:=by
 have hl:=a8G k z.toList;have hzl:z.toList.length=z.size:=by simp
 rw[hzl]at hl;apply x9;intro i
 by_cases h:i<k*z.size
 ·have hg:=a7k z.toList k i (by simpa using h);have hz:0<z.size:=by
   rcases P5 z.size with e | e
   ·rw[e]at h;simp at h
   ·exact e
  have hm:i % z.size<z.size:=a3t _ hz;rw[hg];simp[h,hm]
 ·rw[j5 (by simp;omega),j5 (by omega)]
theorem b3Z (hT:TabOK P T) {bs:Nat->Nat} {k:Nat} {o:Oper} {r:ER} (he:EnvOK n E a) (h:eff T bs E L k o.op=some r) (hob:Conj r.ob) (hs:Sep L (hl w)) (hk:r.k=k\/bs k=w.heap.size):
  ∃nv w',(execOp a.eval o).run P w= .ok nv w'/\(nv= .value r.v\/(nv= .skip/\r.v=undef))/\Sep r.L (hl w')/\Ext w w':=by
 have hx:∀o':Obj,Ext w {w with heap:=w.heap.push o'}:=λo'=>⟨rfl,rfl,rfl,by simp⟩;have hnew:∀(el:TypeId) (cs:List Value),bs k=w.heap.size->Sep (L++[.pt (bs k) el cs]) (hl {w with heap:=w.heap.push (.cells cs.toArray el)}):=λel cs e=>by
  rw[a5i,e];exact hs.snoc (a5j w) (λh' hh=>hh)
 unfold eff at h;unfold execOp;split at h<;>rename_i hop<;>simp only[hop]
 ·split at h
  ·rename_i s s' h1 h2;obtain⟨w',r1,r2,r3,r4,v1,v2⟩:=b2g (P:=P) hT h hob hs;refine⟨.skip,w',?_, .inr ⟨rfl,r2⟩,r3,r4⟩;rw[evs he h1 v1,evs he h2 v2];simp only[Sem.run_bind,r1,Result.andThen_ok,Sem.run_pure]
  ·cases h
 ·split at h
  ·rename_i td sz z bb hg;split at h
   ·rename_i L' tgn hL';injection h with h;subst h;have hL2:=a1K hL';subst hL2;have e:bs k=w.heap.size:=hk.resolve_left (by simp);obtain⟨d,fi,zv,ok⟩:=B4 (hT.get hg);have hz:z=zv.cells.toList:=ok.hzero;subst hz;refine⟨_,_,?_, .inl rfl,hnew _ _ e,hx _⟩;simp only[Instr.alloc,Sem.run_bind,a3y ok.hf ok.hz,Result.andThen_ok,newVar,newRow,newObj,Sem.run,Sem.run_pure,e]
   ·cases h
  ·cases h
 ·split at h
  ·rename_i kk v tg gg h1;split at h
   ·rename_i L' tgn hL';injection h with h;subst h;have hL2:=a1K hL';subst hL2;have e:bs k=w.heap.size:=hk.resolve_left (by simp);refine⟨_,_,?_, .inl rfl,hnew _ _ e,hx _⟩;rw[evs he h1 hob];simp only[Instr.box,Sem.run_bind,Result.andThen_ok,newVar,newRow,newObj,Sem.run,Sem.run_pure,e]
   ·cases h
  ·cases h
 ·rename_i t len parts;unfold a3b at h;split at h
  ·rename_i el esz sz z bb l hg hl1;split at h
   ·rename_i td sz' z' bb' hg';split at h
    ·rename_i cs e1 e2 e3;split at h
     ·rename_i L' tgn hL';injection h with h;subst h;have hL2:=a1K hL';subst hL2;have e:bs k=w.heap.size:=hk.resolve_left (by simp);obtain⟨d,fi,zv,ok⟩:=B4 (hT.get hg);obtain⟨fe,rfl,g1,g2⟩:=ok.slice rfl;obtain⟨d',fi',zv',ok'⟩:=B4 (hT.get hg');have hz:z'=zv'.cells.toList:=ok'.hzero;subst hz;have hsz:sz'=fi'.size:=ok'.hsize;have hbe:=C8 e1;rw[Q8]at hbe;have hble:=L5 e2;have hp:=a4a (Y4 he hl1 hob);have hel:zv'.cells.size=fi'.size:=by rw[<- hbe,hsz]
      have g1':fe=fi':=by have:=g1.symm.trans ok'.hf;injection this
      subst g1';rw[hsz]at e3 hble;rw[<- hel,<- b4k]at e3;have hfill:=a4i (place':=λi=>some (i*zv'.cells.size,zv'.cells.size)) (λ_ _ h=>h) e3;refine⟨_,_,?_, .inl rfl,hnew _ cs e,hx _⟩;have hn:¬len*fe.size>2^24:=by omega
      rw[<- hel]at hn;simp only[Instr.buildSlice,Sem.run_bind,s8 ok.hd,Result.andThen_ok,J0 g1,<- hel];rw[d6 hn]
      by_cases h0:len*zv'.cells.size=0
      ·have hrg:∀f:Nat->Value,(Array.range (len*zv'.cells.size)).map f= #[]:=λf=>by rw[h0];simp
       rw[hrg]at hfill;rw[d8 h0];simp only[Sem.run_bind,Sem.run_pure,Result.andThen_ok,hrg,Q0,hp,hfill,newRow,newObj,Sem.run,e]
      ·rw[d6 h0];simp only[Sem.run_bind,Sem.run_pure,Result.andThen_ok,a3y ok'.hf ok'.hz,Q0,hp,hfill,newRow,newObj,Sem.run,e]
     ·cases h
    ·cases h
   ·cases h
  ·cases h
 ·split at h
  ·rename_i L' tgn hL';injection h with h;subst h;have hL2:=a1K hL';subst hL2;have e:bs k=w.heap.size:=hk.resolve_left (by simp);refine⟨_,{w with heap:=w.heap.push (.map #[] 0)},?_, .inl rfl,?_,hx _⟩
   ·simp only[Instr.makeMap,O3,Sem.run_bind,Result.andThen_ok,newObj,Sem.run,Sem.run_pure,e]
   ·rw[a5i,e];exact hs.snoc (a5j w) (λh' hh=>hh)
  ·cases h
 ·cases h
end
def gd (ops:List Oper) (E:Env) (o:Oper):Option G:=match o.guard with
 | none=>some .tt
 | some (j,want)=>match J3 ops j with
  | some oj=>match oj.dst with
   | some d=>match E.get d with
    | some ⟨_, .bool b,_, .tt⟩=>match want with
     | true=>some (.when b)
     | false=>some (.when (!b))
    | some ⟨_, .bool b,_, .when c⟩=>match want with
     | true=>some (.when (c&&b))
     | false=>some (.when (c&& !b))
    | _=>none
   | none=>none
  | none=>none
def b3s:G->List Prop->List Prop
 | .tt,l=>l
 | .when _,[]=>[]
 | .when b,p::r=>[b=true->Conj (p::r)]
def c0a:Cl->Nat->Option Atom
 | [],_=>none
 | (j,A)::r,i=>match Nat.beq j i with
  | true=>some A
  | false=>c0a r i
def rdC (C:Cl) (L:List Atom):Nat->List Prop
 | 0=>[]
 | i+1=>[c0a C i=J3 L i]
def b6o:Cl->List Atom->List Prop
 | [],_=>[]
 | (i,A)::r,L=>(J3 L i=some A)::b6o r L
def M3 (l:Bool) (C:Cl) (L:List Atom):List Prop:=match l with
 | true=>[]
 | false=>b6o C L
structure SR where
 E:Env
 L:List Atom
 ob:List Prop
 k:Nat
def W5 (N:Nat) (dst:Option Tmp) (v:Value) (tag:Nat) (g:G) (E:Env):Option Env:=match dst with
 | none=>some E
 | some d=>match Nat.blt d N with
  | true=>some (⟨d,v,tag,g⟩::E)
  | false=>none
def a3B (T:Tab) (N:Nat) (ops:List Oper) (C:Cl) (p:Bool) (i:Nat) (E:Env) (L:List Atom) (k:Nat):Option SR:=match J3 ops i with
 | some o=>match gd ops E o,look T E L o.op with
  | some g,some ⟨v,tag,ob,rd⟩=>match W5 N o.dst v tag g E with
   | some E'=>match p,rd with
    | true,0=>some ⟨E',L,b3s g ob,k⟩
    | true,_+1=>none
    | false,rd=>some ⟨E',L,b3s g (rdC C L rd++ob),k⟩
   | none=>none
  | _,_=>none
 | none=>none
def a2l (T:Tab) (N:Nat) (bs:Nat->Nat) (ops:List Oper) (C:Cl) (l:Bool) (i:Nat) (E:Env) (L:List Atom) (k:Nat):Option SR:=match J3 ops i with
 | some o=>match gd ops E o with
  | some g=>match look T E L o.op with
   | some ⟨v,tag,ob,_⟩=>match W5 N o.dst v tag g E with
    | some E'=>some ⟨E',L,M3 l C L++b3s g ob,k⟩
    | none=>none
   | none=>match g with
    | .tt=>match eff T bs E L k o.op with
     | some ⟨v,tag,L',ob,k'⟩=>match W5 N o.dst v tag .tt E with
      | some E'=>some ⟨E',L',M3 l C L'++ob,k'⟩
      | none=>none
     | none=>none
    | _=>none
  | none=>none
 | none=>none
section
variable {P : Program} {T : Tab} {E : Env} {L : List Atom} {n : Nat} {a : Act} {w : World}
theorem a1h {ops:Array Oper} {o:Oper} {g:G} (he:EnvOK n E a) (h:gd ops.toList E o=some g):Region.wanted o (yielded ops a.tmps)=g.on:=by
 unfold gd at h;unfold Region.wanted;split at h
 ·rename_i hg;injection h with h;subst h;simp[hg,G.on]
 ·rename_i j want hg;split at h
  ·rename_i oj hj;rw[J2]at hj;have hj':ops[j]? =some oj:=by simpa using hj
   split at h
   ·rename_i d hd;have hy:∀s,E.get d=some s->yielded ops a.tmps j=match s.val with | .bool b=>some b | _=>none:=λs hs=>by
     have:=he.slot d s hs;simp only[yielded,hj',Option.bind_some,hd,this];cases s.val<;>rfl
    split at h
    ·rename_i k b t hs;have:=hy _ hs;simp only[Slot.val,G.on]at this;simp only[hg,this];split at h<;>injection h with h<;>subst h<;>cases b<;>rfl
    ·rename_i k b t c hs;have:=hy _ hs;simp only[Slot.val,G.on]at this;simp only[hg];split at h<;>injection h with h<;>subst h<;>cases c<;>cases b<;>simp only[this]<;>rfl
    ·cases h
   ·cases h
  ·cases h
theorem a4t {g:G} {l:List Prop} (h:Conj (b3s g l)) (hg:g.on=true):Conj l:=by
 cases g with
 | tt=>exact h
 | when b=>
  cases l with
  | nil=>trivial
  | cons p r=>exact h.1 hg
theorem T6 {N:Nat} {dst:Option Tmp} {v:Value} {tag:Nat} {g:G} {E':Env} (he:EnvOK N E a) (h:W5 N dst v tag g E=some E') (u:Value) (hu:u=match g.on with | true=>v | false=>undef):EnvOK N E' (a.put dst u):=by
 unfold W5 at h;split at h
 ·injection h with h;subst h;exact he
 ·rename_i d;split at h
  ·rename_i hd;injection h with h;subst h;exact he.put (L5 hd) v tag g u hu
  ·cases h
theorem B6:∀{C:Cl} {i:Nat} {A:Atom},c0a C i=some A->(i,A)∈C
 | (j,B)::r,i,A,h=>by
  simp only[c0a]at h;split at h
  ·rename_i e;have:=C8 e;subst this;injection h with h;subst h;exact H1 ..
  ·exact E8 _ (B6 h)
theorem a7x:∀{C:Cl} {L:List Atom} {w:World},Conj (b6o C L)->Sep L (hl w)->CAt C w
 | [],L,w,h,hs=>by intro p hp;cases hp
 | (i,A)::r,L,w,h,hs=>by
  intro p hp;rcases List.mem_cons.1 hp with rfl | hp
  ·have:=h.1;rw[J2]at this;exact hs.get this
  ·exact a7x h.2 hs p hp
theorem Q4 {l:Bool} {C:Cl} {L:List Atom} {w:World} (h:Conj (M3 l C L)) (hs:Sep L (hl w)) (e:l=false):CAt C w:=by
 subst e;exact a7x h hs
theorem a8J (hT:TabOK P T) {N:Nat} {ops:Array Oper} {C:Cl} {p:Bool} {i k:Nat} {r:SR} (h:a3B T N ops.toList C p i E L k=some r) (hob:Conj r.ob):
  r.L=L/\r.k=k/\∃o,ops[i]? =some o/\∀a,EnvOK N E a->∃v,YldIn P ops (λw=>p=false->CAt C w) o v a/\EnvOK N r.E (a.put o.dst v):=by
 unfold a3B at h;split at h
 ·rename_i o ho;rw[J2]at ho;have ho':ops[i]? =some o:=by simpa using ho
  split at h
  ·rename_i g v tag ob rd hg hq;split at h
   ·rename_i E' hE;split at h
    ·injection h with h;subst h;refine⟨rfl,rfl,o,ho',λa he=>⟨_,?_,T6 he hE _ rfl⟩⟩;have hw:=a1h he hg;cases hon:g.on with
     | false=>exact .inr ⟨by rw[hw,hon],rfl⟩
     | true=>exact .inl ⟨by rw[hw,hon],λw _=>a8b hT he hq (a4t hob hon) λi A hi hA=>by cases hi⟩
    ·cases h
    ·injection h with h;subst h;refine⟨rfl,rfl,o,ho',λa he=>⟨_,?_,T6 he hE _ rfl⟩⟩;have hw:=a1h he hg;cases hon:g.on with
     | false=>exact .inr ⟨by rw[hw,hon],rfl⟩
     | true=>
      have hob2:=a4t hob hon;obtain⟨o1,o2⟩:=Conj.app hob2;refine .inl ⟨by rw[hw,hon],λw hC=>a8b hT he hq o2 λi A hi hA=>?_⟩;have hi':rd=i+1:=hi;rw[hi']at o1;have h1:=o1.1;rw[J2,hA]at h1;exact hC rfl _ (B6 h1)
   ·cases h
  ·cases h
 ·cases h
theorem b1a (hT:TabOK P T) {N:Nat} {bs:Nat->Nat} {ops:Array Oper} {C:Cl} {l:Bool} {i k:Nat} {r:SR} (h:a2l T N bs ops.toList C l i E L k=some r) (hob:Conj r.ob):
  ∃o,ops[i]? =some o/\∀a w,EnvOK N E a->Sep L (hl w)->(r.k=k\/bs k=w.heap.size)->sOp P ops o (λa' w'=>(l=false->CAt C w')/\EnvOK N r.E a'/\Sep r.L (hl w')/\Ext w w') a w:=by
 unfold a2l at h;split at h
 ·rename_i o ho;rw[J2]at ho;have ho':ops[i]? =some o:=by simpa using ho
  split at h
  ·rename_i g hg;split at h
   ·rename_i v tag ob rd hq;split at h
    ·rename_i E' hE;injection h with h;subst h;obtain⟨o1,o2⟩:=Conj.app hob;refine⟨o,ho',λa w he hs _=>?_⟩;have hw:=a1h he hg;unfold sOp;cases hon:g.on with
     | false=>
      rw[d6 (by rw[hw,hon];simp)];exact⟨Q4 o1 hs,T6 he hE _ (by rw[hon]),hs,Ext.refl _⟩
     | true=>
      rw[d8 (by rw[hw,hon]),a8b hT he hq (a4t o2 hon) λi A _ hA=>hs.get hA];exact⟨Q4 o1 hs,T6 he hE _ (by rw[hon]),hs,Ext.refl _⟩
    ·cases h
   ·split at h
    ·split at h
     ·rename_i v tag L' ob k' hq;split at h
      ·rename_i E' hE;injection h with h;subst h;obtain⟨o1,o2⟩:=Conj.app hob;refine⟨o,ho',λa w he hs hk=>?_⟩;have hw:=a1h he hg;obtain⟨nv,w',r1,r2,r3,r4⟩:=b3Z hT he hq o2 hs hk;unfold sOp;rw[d8 (by rw[hw];rfl),r1];rcases r2 with rfl | ⟨rfl,r2⟩
       ·exact⟨Q4 o1 r3,T6 he hE _ rfl,r3,r4⟩
       ·exact⟨Q4 o1 r3,T6 he hE _ (by simp only at r2;rw[r2];rfl),r3,r4⟩
      ·cases h
     ·cases h
    ·cases h
  ·cases h
 ·cases h
end

theorem b5x {T:Tab} {b0 bs:Nat->Nat} {E:Env} {L:List Atom} {k:Nat} {op:Op} {r:ER} (h:eff T b0 E L k op=some r):(r.k=k\/r.k=k+1)/\((k<r.k->bs k=b0 k)->eff T bs E L k op=some r):=by
 unfold eff at h ⊢;split at h
 ·split at h
  ·rename_i s s' h1 h2;refine⟨.inl ?_,λ_=>by first | exact h | (rw[h1,h2];exact h) | (simp only[h1,h2];exact h)⟩;unfold a7i at h
   (repeat' split at h)<;>first | (cases h;done) | (injection h with h;subst h;rfl)
  ·cases h
 ·split at h
  ·rename_i h1;split at h
   ·rename_i h2;injection h with h;subst h;exact⟨.inr rfl,λhb=>by simp only[h1,hb (a8F k),h2]⟩
   ·cases h
  ·cases h
 ·split at h
  ·rename_i h1;split at h
   ·rename_i h2;injection h with h;subst h;exact⟨.inr rfl,λhb=>by simp only[h1,hb (a8F k),h2]⟩
   ·cases h
  ·cases h
 ·unfold a3b at h ⊢;split at h
  ·rename_i h1 h2;split at h
   ·rename_i h3;split at h
    ·rename_i h4 h5 h6;split at h
     ·rename_i h7;injection h with h;subst h;exact⟨.inr rfl,λhb=>by simp only[h1,h2,h3,h4,h5,h6,hb (a8F k),h7]⟩
     ·cases h
    ·cases h
   ·cases h
  ·cases h
 ·split at h
  ·rename_i h2;injection h with h;subst h;exact⟨.inr rfl,λhb=>by rw[hb (a8F k)];simp only[h2]⟩
  ·cases h
 ·cases h
theorem a1j {T:Tab} {N:Nat} {b0 bs:Nat->Nat} {ops:List Oper} {C:Cl} {l:Bool} {i k:Nat} {E:Env} {L:List Atom} {r:SR} (h:a2l T N b0 ops C l i E L k=some r):(r.k=k\/r.k=k+1)/\((k<r.k->bs k=b0 k)->a2l T N bs ops C l i E L k=some r):=by
 unfold a2l at h ⊢;split at h
 ·rename_i o ho;split at h
  ·rename_i g hg;split at h
   ·rename_i q hq;split at h
    ·rename_i E' hE;injection h with h;subst h;exact⟨.inl rfl,λ_=>by simp only[ho,hg,hq,hE]⟩
    ·cases h
   ·rename_i hq;split at h
    ·split at h
     ·rename_i q hq2;split at h
      ·rename_i E' hE;injection h with h;subst h;obtain⟨c1,c2⟩:=b5x (bs:=bs) hq2;exact⟨c1,λhb=>by simp only[ho,hg,hq,c2 hb,hE]⟩
      ·cases h
     ·cases h
    ·cases h
  ·cases h
 ·cases h
def b6g {α:Type}:List Prop->(List Prop->α)->α
 | [],f=>f []
 | p::r,f=>b6g r λl=>f (p::l)
theorem a6X {α:Type}:∀(l:List Prop) (f:List Prop->α),b6g l f=f l
 | [],f=>rfl
 | p::r,f=>by rw[b6g,a6X r]
structure RS where
 K:List KI
 E:Env
 L:List Atom
 ob:List Prop
def run (T:Tab) (N:Nat) (bs:Nat->Nat):Nat->List KI->Env->List Atom->List Prop->Nat->RS
 | 0,K,E,L,ob,_=>⟨K,E,L,ob⟩
 | n+1,K,E,L,ob,k=>match K with
  | .blk _::K'=>run T N bs n K' E L ob k
  | .code (.seq x y)::K'=>run T N bs n (.code x:: .code y::K') E L ob k
  | .code .skip::K'=>run T N bs n K' E L ob k
  | .code (.block id c)::K'=>run T N bs n (.code c:: .blk id::K') E L ob k
  | .code (.exit id)::K'=>match a8p id K' with
   | some K2=>run T N bs n K2 E L ob k
   | none=>⟨.code (.exit id)::K',E,L,ob⟩
  | .code (.region _ ops false)::K'=>run T N bs n (.reg ops [] (PT.seq 0 ops.size)::K') E L ob k
  | .reg _ _ .done::K'=>run T N bs n K' E L ob k
  | .reg ops C (.take p i t)::K'=>match a3B T N ops.toList C p i E L k with
   | some ⟨E',L',ob',k'⟩=>b6g (ob'++ob) λob2=>run T N bs n (.reg ops C t::K') E' L' ob2 k'
   | none=>⟨.reg ops C (.take p i t)::K',E,L,ob⟩
  | .reg ops C (.alt l i t .non)::K'=>match a2l T N bs ops.toList C l i E L k with
   | some ⟨E',L',ob',k'⟩=>b6g (ob'++ob) λob2=>run T N bs n (.reg ops C t::K') E' L' ob2 k'
   | none=>⟨.reg ops C (.alt l i t .non)::K',E,L,ob⟩
  | K=>⟨K,E,L,ob⟩
theorem b4A {X:Cx} {T:Tab} (hT:TabOK X.P T):∀(n:Nat) (K:List KI) (E:Env) (L:List Atom) (ob:List Prop) (k:Nat) (b0:Nat->Nat),
  (∀bs:Nat->Nat,(∀i,i<k->bs i=b0 i)->Conj (run T X.n bs n K E L ob k).ob/\J X (run T X.n bs n K E L ob k).K (run T X.n bs n K E L ob k).E (run T X.n bs n K E L ob k).L)->Conj ob/\J X K E L:=by
 intro n
 induction n with
 | zero=>intro K E L ob k b0 h;exact h b0 (λ_ _=>rfl)
 | succ n ih=>
  intro K E L ob k b0 h;unfold run at h;split at h
  ·obtain⟨h1,h2⟩:=ih _ _ _ _ k b0 h;exact⟨h1,J.blk h2⟩
  ·obtain⟨h1,h2⟩:=ih _ _ _ _ k b0 h;exact⟨h1,J.seq h2⟩
  ·obtain⟨h1,h2⟩:=ih _ _ _ _ k b0 h;exact⟨h1,J.skip h2⟩
  ·obtain⟨h1,h2⟩:=ih _ _ _ _ k b0 h;exact⟨h1,J.block h2⟩
  ·rename_i id K';cases hx:a8p id K' with
   | some K2=>simp only[hx]at h;obtain⟨h1,h2⟩:=ih _ _ _ _ k b0 h;exact⟨h1,J.exit hx h2⟩
   | none=>simp only[hx]at h;exact h b0 (λ_ _=>rfl)
  ·obtain⟨h1,h2⟩:=ih _ _ _ _ k b0 h;exact⟨h1,J.code_reg h2⟩
  ·obtain⟨h1,h2⟩:=ih _ _ _ _ k b0 h;exact⟨h1,J.reg_done h2⟩
  ·rename_i ops C p i t K';cases hs:a3B T X.n ops.toList C p i E L k with
   | none=>simp only[hs]at h;exact h b0 (λ_ _=>rfl)
   | some r=>
    obtain⟨E',L',ob',k'⟩:=r;simp only[hs,a6X]at h;have hk:k'=k:=by
     unfold a3B at hs
     (repeat' split at hs)<;>first | (cases hs;done) | (injection hs with hs;injection hs with _ _ _ e;exact e.symm)
    subst hk;obtain⟨h1,h2⟩:=ih _ _ _ _ k' b0 h;obtain⟨o2,o1⟩:=Conj.app h1;refine⟨o1,λa w hx he hsp=>?_⟩;obtain⟨e1,_,o,ho,hy⟩:=a8J (P:=X.P) hT hs o2;obtain⟨v,y1,y2⟩:=hy a he;simp only at e1;subst e1;exact⟨o,v,ho,y1,h2 _ w hx y2 hsp⟩
  ·rename_i ops C l i t K';refine⟨?_,λa w hx he hsp=>?_⟩
   ·have:=h b0 (λ_ _=>rfl);cases hs:a2l T X.n b0 ops.toList C l i E L k with
    | none=>simp only[hs]at this;exact this.1
    | some r=>
     obtain⟨E',L',ob',k'⟩:=r;have hk:k<=k':=by rcases(a1j (bs:=b0) hs).1 with e | e<;>simp only at e<;>omega
     have h':∀bs:Nat->Nat,(∀i,i<k'->bs i=b0 i)->Conj (run T X.n bs n (.reg ops C t::K') E' L' (ob'++ob) k').ob/\J X (run T X.n bs n (.reg ops C t::K') E' L' (ob'++ob) k').K (run T X.n bs n (.reg ops C t::K') E' L' (ob'++ob) k').E (run T X.n bs n (.reg ops C t::K') E' L' (ob'++ob) k').L:=λbs hb=>by
      have:=h bs (λi hi=>hb i (by omega));rw[(a1j (bs:=bs) hs).2 (λe=>hb k e)]at this;simpa only[a6X]using this
     exact(Conj.app (ih _ _ _ _ k' b0 h').1).2
   ·let b1:Nat->Nat:=λi=>if i=k then w.heap.size else b0 i
    have hb1:∀i,i<k->b1 i=b0 i:=λi hi=>by show(if i=k then _ else _)=_;rw[d6 (by omega)]
    have hbk:b1 k=w.heap.size:=by show(if k=k then _ else _)=_;rw[d8 rfl]
    cases hs:a2l T X.n b1 ops.toList C l i E L k with
    | none=>have:=h b1 hb1;simp only[hs]at this;exact this.2 a w hx he hsp
    | some r=>
     obtain⟨E',L',ob',k'⟩:=r;have hk:k<=k':=by rcases(a1j (bs:=b0) hs).1 with e | e<;>simp only at e<;>omega
     have h':∀bs:Nat->Nat,(∀i,i<k'->bs i=b1 i)->Conj (run T X.n bs n (.reg ops C t::K') E' L' (ob'++ob) k').ob/\J X (run T X.n bs n (.reg ops C t::K') E' L' (ob'++ob) k').K (run T X.n bs n (.reg ops C t::K') E' L' (ob'++ob) k').E (run T X.n bs n (.reg ops C t::K') E' L' (ob'++ob) k').L:=λbs hb=>by
      have:=h bs (λi hi=>(hb i (by omega)).trans (hb1 i hi));rw[(a1j (bs:=bs) hs).2 (λe=>hb k e)]at this;simpa only[a6X]using this
     obtain⟨h1,h2⟩:=ih _ _ _ _ k' b1 h';obtain⟨o,ho,hstep⟩:=b1a (P:=X.P) hT hs (Conj.app h1).1;exact⟨⟨o,ho,(hstep a w he hsp (.inr hbk)).mono λa' w' ⟨q1,q2,q3,q4⟩=>⟨q1,h2 a' w' (hx.trans q4) q2 q3⟩⟩,trivial⟩
  ·exact h b0 (λ_ _=>rfl)
def a8M (E:Env):Env->List Prop
 | []=>[]
 | s::r=>(E.get s.k=some s)::a8M E r
theorem Env.sub_of {E:Env}:∀{E':Env},Conj (a8M E E')->E.sub E'
 | [],_,k,s,h=>by cases h
 | s'::r,hc,k,s,h=>by
  simp only[Env.get]at h;split at h
  ·rename_i e;have:=C8 e;injection h with h;subst h;rw[<- this];exact hc.1
  ·exact Env.sub_of hc.2 k s h
structure IsCx (X:Cx) (P:Program) (rs:List ResultVar) (N:Nat) (F:HP) (Post:Value->List Atom->Prop):Prop where
 hP:X.P=P
 hrs:X.fn.results.toList=rs
 hN:X.n=N
 hR:X.R=λe w'=>∃v As,e= .returned v/\Post v As/\Sep (.hp F::As) (hl w')/\Ext X.w0 w'
def a6J:List Nat->List Value->List Nat->Env
 | k::ks,v::r,[]=>⟨k,v,0, .tt⟩::a6J ks r []
 | k::ks,v::r,t::ts=>⟨k,v,t, .tt⟩::a6J ks r ts
 | _,_,_=>[]
def keys:List Nat:=[0,1,2,3,4,5,6,7,8,9,10,11]
def c2j:List Nat->Nat->Prop
 | [],_=>True
 | k::ks,n=>k=n/\c2j ks (n+1)
theorem a9Y:∀(l:List Value) (k:Nat) (ks:List Nat) (ts:List Nat) (j:Nat) (s:Slot),c2j ks k->(a6J ks l ts).get j=some s->∃i,j=k+i/\l[i]? =some s.val
 | [],k,ks,ts,j,s,_,h=>by cases ks<;>simp[a6J,Env.get]at h
 | v::r,k,[],ts,j,s,_,h=>by simp[a6J,Env.get]at h
 | v::r,k,k'::ks,ts,j,s,hr,h=>by
  have key:∀(t:Nat) (ts':List Nat),Env.get (⟨k',v,t, .tt⟩::a6J ks r ts') j=some s->∃i,j=k+i/\(v::r)[i]? =some s.val:=by
   intro t ts' h;simp only[Env.get]at h;split at h
   ·rename_i e;have:=C8 e;injection h with h;subst h;exact⟨0,by rw[<- this,hr.1];rfl,by simp[Slot.val,G.on]⟩
   ·obtain⟨i,e1,e2⟩:=a9Y r (k+1) ks ts' j s hr.2 h;exact⟨i+1,by omega,by simpa using e2⟩
  cases ts with
  | nil=>exact key _ _ h
  | cons t ts=>exact key _ _ h
theorem Fn.enter {P:Program} {f:FuncId} {args:List Value} {Pre:List Atom} {Post:Value->List Atom->Prop} {fn:Func} {c:Code} {N:Nat} (tags:List Nat) (hf:P.funcs[f]? =some fn) (hb:fn.body=some c) (hN:fn.ntmps=N) (hl:Nat.ble args.length N=true)
  (h:∀(X:Cx) (F:HP),IsCx X P fn.results.toList N F Post->J X [.code c] (a6J keys args tags) (.hp F::Pre)):Fn P f args Pre Post:=by
 intro F w hs;have hle:=L5 hl;have hX:IsCx ⟨P,fn,N,λe w'=>∃v As,e= .returned v/\Post v As/\Sep (.hp F::As) (Go.Proofs.YtmafiplddapokaaGreat.hl w')/\Ext w w',w⟩ P fn.results.toList N F Post:=⟨rfl,rfl,rfl,rfl⟩;have hJ:=h _ F hX;refine calls_of_wp hf hb ?_;refine hJ {tmps:=args.toArray++Array.replicate (fn.ntmps-args.toArray.size) undef,defers:=[]} w (Ext.refl w) ⟨by simp;omega,rfl,λk s hk=>?_⟩ hs;obtain⟨i,e1,e2⟩:=a9Y args 0 keys tags k s ⟨rfl,rfl,rfl,rfl,rfl,rfl,rfl,rfl,rfl,rfl,rfl,rfl,trivial⟩ hk;have hi:i<args.length:=(List.getElem?_eq_some_iff.1 e2).1;have:k=i:=by omega
 subst this;rw[Array.getElem?_append,d8 (by simpa using hi)];simpa using e2
section
variable {X : Cx} {P : Program} {T : Tab} {K : List KI} {E : Env} {L : List Atom} {N : Nat} {F : HP} {Post : Value → List Atom → Prop} {rs : List ResultVar}
theorem J.run (hX:IsCx X P rs N F Post) (hT:TabOK P T) (n:Nat) {K':(Nat->Nat)->List KI} {E':(Nat->Nat)->Env} {L':(Nat->Nat)->List Atom} {ob:(Nat->Nat)->List Prop}
  (h:∀bs,Go.Proofs.YtmafiplddapokaaGreat.run T N bs n K E L [] 0=⟨K' bs,E' bs,L' bs,ob bs⟩) (hob:∀bs,Conj (ob bs)) (hJ:∀bs,J X (K' bs) (E' bs) (L' bs)):J X K E L:=by
 have hT':TabOK X.P T:=by rw[hX.hP];exact hT
 refine(b4A hT' n K E L [] 0 (λ_=>0) λbs _=>?_).2;rw[hX.hN,h bs];exact⟨hob bs,hJ bs⟩
theorem J.r (hX:IsCx X P rs N F Post) (hT:TabOK P T) (n:Nat) {K':(Nat->Nat)->List KI} {E':(Nat->Nat)->Env} {L':(Nat->Nat)->List Atom} {ob:(Nat->Nat)->List Prop}
  (h:∀bs,Go.Proofs.YtmafiplddapokaaGreat.run T N bs n K E L [] 0=⟨K' bs,E' bs,L' bs,ob bs⟩) (hJ:∀bs,J X (K' bs) (E' bs) (L' bs)) (hob:∀bs,Conj (ob bs):=by intro bs;(repeat' (first | exact Conj.nil | refine Conj.cons ?_ ?_ | omega | exact hq0 | (simpa using hq0) | (exactλh=>h) | exact rfl | (intro hq;have hq0:=hq;try simp only[f7,j6,d5,i4,c8]at hq) | (simp;done) | (simp;omega) | decide))):J X K E L:=J.run hX hT n h hob hJ
theorem J.loopN {c:Code} {α:Type} (I:α->Prop) (Ei:α->Env) (is:List Nat) (As:α->List Atom) (μ:α->Nat) (x0:α) {Li:α->List Atom} (h0:I x0) (hE:Conj (a8M E (Ei x0))) (ok:P4 L is=true) (hA:N9 L is=As x0) (hLi:∀x,a0W L is (As x)=some (Li x))
  (round:∀x,I x->J X (.code c:: .stop (λa w=>Ext X.w0 w/\∃x',I x'/\μ x'<μ x/\EnvOK X.n (Ei x') a/\Sep (Li x') (hl w))::K) (Ei x) (Li x)):J X (.code (.loop c)::K) E L:=
 J.loop I Ei Li μ x0 h0 (Env.sub_of hE) (λh s=>by
  have:=s.turn1 is ok (As:=As x0) (λh' s'=>by rw[hA]at s';exact s')
  rwa [<- a2W (a0s ok).1 (hLi x0)]at this) round
theorem J.lo {c:Code} {α:Type} (I:α->Prop) (Ei:α->Env) (is:List Nat) (As:α->List Atom) (μ:α->Nat) (x0:α) {Li:α->List Atom} (h0:I x0) (ok:P4 L is=true) (hA:N9 L is=As x0) (hLi:∀x,a0W L is (As x)=some (Li x))
  (round:∀x,I x->J X (.code c:: .stop (λa w=>Ext X.w0 w/\∃x',I x'/\μ x'<μ x/\EnvOK X.n (Ei x') a/\Sep (Li x') (hl w))::K) (Ei x) (Li x)) (hE:Conj (a8M E (Ei x0)):=by(repeat' (first | exact Conj.nil | refine Conj.cons ?_ ?_ | omega | exact hq0 | (simpa using hq0) | (exactλh=>h) | exact rfl | (intro hq;have hq0:=hq;try simp only[f7,j6,d5,i4,c8]at hq) | (simp;done) | (simp;omega) | decide))):J X (.code (.loop c)::K) E L:=J.loopN I Ei is As μ x0 h0 hE ok hA hLi round
theorem J.next {α:Type} {I:α->Prop} {Ei:α->Env} {Li:α->List Atom} {μ:α->Nat} {m:Nat} (x:α) (h1:I x) (h2:μ x<m) (h3:Conj (a8M E (Ei x))) (h4:∀h,Sep L h->Sep (Li x) h):
  J X (.stop (λa w=>Ext X.w0 w/\∃x',I x'/\μ x'<m/\EnvOK X.n (Ei x') a/\Sep (Li x') (hl w))::K) E L:=J.stop x h1 h2 (Env.sub_of h3) h4
theorem J.nx {α:Type} {I:α->Prop} {Ei:α->Env} {Li:α->List Atom} {μ:α->Nat} {m:Nat} (x:α) (h1:I x) (h2:μ x<m) (h4:∀h,Sep L h->Sep (Li x) h) (h3:Conj (a8M E (Ei x)):=by(repeat' (first | exact Conj.nil | refine Conj.cons ?_ ?_ | omega | exact hq0 | (simpa using hq0) | (exactλh=>h) | exact rfl | (intro hq;have hq0:=hq;try simp only[f7,j6,d5,i4,c8]at hq) | (simp;done) | (simp;omega) | decide))):
  J X (.stop (λa w=>Ext X.w0 w/\∃x',I x'/\μ x'<m/\EnvOK X.n (Ei x') a/\Sep (Li x') (hl w))::K) E L:=J.next x h1 h2 h3 h4
def b6y (T:Tab) (E:Env) (L:List Atom):ResultVar->Option (Value×List Prop)
 | .tmp t=>match E.get t with
  | some s=>some (s.v,a1k s)
  | none=>none
 | .cell p t=>match E.get p with
  | some s=>match a4B T L t s with
   | some r=>some (r.v,r.ob)
   | none=>none
  | none=>none
def a9n (T:Tab) (E:Env) (L:List Atom):List ResultVar->Option (List Value×List Prop)
 | []=>some ([],[])
 | r::l=>match b6y T E L r,a9n T E L l with
  | some (v,ob),some (vs,obs)=>some (v::vs,ob++obs)
  | _,_=>none
def a7H (T:Tab) (E:Env) (L:List Atom) (rs:List ResultVar):Option (Value×List Prop):=match a9n T E L rs with
 | some ([v],ob)=>some (v,ob)
 | some (vs,ob)=>some (.tuple vs.toArray,ob)
 | none=>none
theorem a8E {a:Act} {w:World}:∀K:List KI,bodyPost X.P X.fn X.R .ret a w->KW X K .ret a w
 | [],h=>h
 | .code c::K,h=>a8E K h
 | .reg o C t::K,h=>a8E K h
 | .blk id::K,h=>a8E K h
 | .stop R::K,h=>a8E K h
def b6z (tmps:Array Value):ResultVar->Sem Value
 | .tmp t=>pure (tmps.getD t undef)
 | .cell p t=>do loadVar t (<- asAddr (tmps.getD p undef))
theorem b2E (fn:Func) (tmps:Array Value):results fn tmps=(do
  let vs <- fn.results.mapM (b6z tmps)
  pure (if h:vs.size=1 then vs[0]else .tuple vs)):=rfl
theorem a9m (hT:TabOK P T) {a:Act} {w:World} {n:Nat} (he:EnvOK n E a) (hs:Sep L (hl w)):∀{rs:List ResultVar} {vs:List Value} {ob:List Prop},a9n T E L rs=some (vs,ob)->Conj ob->
  (rs.mapM (b6z a.tmps)).run P w= .ok vs w
 | [],vs,ob,h,_=>by simp only[a9n,l6,C4]at h;obtain⟨rfl,rfl⟩:=h;simp
 | r::l,vs,ob,h,hob=>by
  simp only[a9n]at h;split at h
  ·rename_i v ob1 vs' ob2 h1 h2;simp only[l6,C4]at h;obtain⟨rfl,rfl⟩:=h;obtain⟨o1,o2⟩:=Conj.app hob;have ih:=a9m hT he hs h2 o2;have h0:(b6z a.tmps r).run P w= .ok v w:=by
    cases r with
    | tmp t=>
     simp only[b6y]at h1;split at h1
     ·rename_i s hg;simp only[l6,C4]at h1;obtain⟨rfl,rfl⟩:=h1;have:=he.slot t s hg;rw[a4u o1]at this;simp[b6z,this]
     ·cases h1
    | cell p t=>
     simp only[b6y]at h1;split at h1
     ·rename_i s hg;split at h1
      ·rename_i q hq;simp only[l6,C4]at h1;obtain⟨rfl,rfl⟩:=h1;have hv:Conj (a1k s):=by
        unfold a4B at hq
        (repeat' split at hq)<;>first | (cases hq;done) | (injection hq with hq;subst hq;exact o1.2)
       have:=he.slot p s hg;rw[a4u hv]at this;have hr:=a8d (w:=w) hT hq o1 (λi A _ hA=>hs.get hA);have hsp:∃ad,s.v= .pointer (some ad):=by
        unfold a4B at hq;split at hq
        ·exact⟨_,rfl⟩
        ·cases hq
       obtain⟨ad,had⟩:=hsp;rw[had]at hr this;simp only[Instr.loadAt,Instr.sureAddr,Sem.run_bind,Sem.run_pure,Result.andThen_ok]at hr;simp[b6z,this,asAddr,hr]
      ·cases h1
     ·cases h1
   simp only[List.mapM_cons,Sem.run_bind,h0,Result.andThen_ok,ih,Sem.run_pure]
  ·cases h
theorem b1t (hT:TabOK P T) {a:Act} {w:World} {n:Nat} {fn:Func} (he:EnvOK n E a) (hs:Sep L (hl w)) {v:Value} {ob:List Prop} (h:a7H T E L fn.results.toList=some (v,ob)) (hob:Conj ob):(results fn a.tmps).run P w= .ok v w:=by
 have key:∀{vs:List Value} {ob':List Prop},a9n T E L fn.results.toList=some (vs,ob')->Conj ob'->(results fn a.tmps).run P w= .ok (if h:vs.toArray.size=1 then vs.toArray[0]else .tuple vs.toArray) w:=by
  intro vs ob' h1 h2;have:=a9m (P:=P) (w:=w) hT he hs h1 h2;rw[b2E,Array.mapM_eq_mapM_toList];simp only[map_eq_pure_bind,Sem.run_bind,this,Result.andThen_ok,Sem.run_pure]
 unfold a7H at h;split at h
 ·rename_i v' ob' h1;simp only[l6,C4]at h;obtain⟨rfl,rfl⟩:=h;rw[key h1 hob];simp
 ·rename_i vs ob' hne h1;simp only[l6,C4]at h;obtain⟨rfl,rfl⟩:=h;rw[key h1 hob];have:vs.toArray.size≠1:=by
   intro e
   match vs,e with
   | [x],_=>exact hne x rfl
  rw[dif_neg this]
 ·cases h
theorem Sep.sub {h:Hl} (s:Sep L h) (is:List Nat) (ok:P4 L is=true):Sep (N9 L is) h:=by
 obtain⟨own,hw⟩:=s.split ok;exact⟨λb=>own b-1,λj A hA=>Atom.up (λb o hb=>by
  rw[res_some]at hb ⊢;exact⟨by show own b-1=j;omega,hb.2⟩) (hw (j+1) A (by simpa using hA))⟩
theorem b1s (hX:IsCx X P rs N F Post) (hT:TabOK P T) {v:Value} {ob:List Prop} (is:List Nat) (h:a7H T E L rs=some (v,ob)) (hob:Conj ob) (ok:P4 L (0::is)=true) (h0:J3 L 0=some (.hp F)) (hP:Post v (N9 L is)) {a:Act} {w:World} (hx:Ext X.w0 w) (he:EnvOK X.n E a) (hs:Sep L (hl w)):
  a.defers=[]/\∃v,(results X.fn a.tmps).run X.P w= .ok v w/\X.R (.returned v) w:=by
 refine⟨he.defers,v,b1t (by rw[hX.hP];exact hT) he hs (by rw[hX.hrs];exact h) hob,?_⟩;rw[hX.hR];refine⟨v,N9 L is,rfl,hP,?_,hx⟩;have:=hs.sub (0::is) ok;rw[J2]at h0;simpa[N9,h0]using this
theorem J.ret (hX:IsCx X P rs N F Post) (hT:TabOK P T) {v:Value} {ob:List Prop} (is:List Nat) (h:a7H T E L rs=some (v,ob)) (hob:Conj ob) (ok:P4 L (0::is)=true) (h0:J3 L 0=some (.hp F)) (hP:Post v (N9 L is)):J X (.code .ret::K) E L:=
 λ_ _ hx he hs=>wp_ret (a8E K (b1s hX hT is h hob ok h0 hP hx he hs))
theorem J.fin (hX:IsCx X P rs N F Post) (hT:TabOK P T) {v:Value} {ob:List Prop} (is:List Nat) (h:a7H T E L rs=some (v,ob)) (hob:Conj ob) (ok:P4 L (0::is)=true) (h0:J3 L 0=some (.hp F)) (hP:Post v (N9 L is)):J X [] E L:=
 λ_ _ hx he hs=>b1s hX hT is h hob ok h0 hP hx he hs
theorem J.rt (hX:IsCx X P rs N F Post) (hT:TabOK P T) {v:Value} {ob:List Prop} (is:List Nat) (h:a7H T E L rs=some (v,ob)) (ok:P4 L (0::is)=true) (h0:J3 L 0=some (.hp F)) (hP:Post v (N9 L is)) (hob:Conj ob:=by(repeat' (first | exact Conj.nil | refine Conj.cons ?_ ?_ | omega | exact hq0 | (simpa using hq0) | (exactλh=>h) | exact rfl | (intro hq;have hq0:=hq;try simp only[f7,j6,d5,i4,c8]at hq) | (simp;done) | (simp;omega) | decide))):J X (.code .ret::K) E L:=J.ret hX hT is h hob ok h0 hP
theorem J.fi (hX:IsCx X P rs N F Post) (hT:TabOK P T) {v:Value} {ob:List Prop} (is:List Nat) (h:a7H T E L rs=some (v,ob)) (ok:P4 L (0::is)=true) (h0:J3 L 0=some (.hp F)) (hP:Post v (N9 L is)) (hob:Conj ob:=by(repeat' (first | exact Conj.nil | refine Conj.cons ?_ ?_ | omega | exact hq0 | (simpa using hq0) | (exactλh=>h) | exact rfl | (intro hq;have hq0:=hq;try simp only[f7,j6,d5,i4,c8]at hq) | (simp;done) | (simp;omega) | decide))):J X [] E L:=J.fin hX hT is h hob ok h0 hP
def a6I (E:Env) (op:Op):Option (FuncId×List Value×List Prop):=match op with
 | .call ⟨.value f,args,_⟩=>match ev E f,slots E args.toList with
  | some ⟨k, .func (.func g) fs cs,t,gg⟩,some l=>some (g,fs.toList++(vals l++cs.toList),a1k ⟨k, .func (.func g) fs cs,t,gg⟩++a1H l)
  | _,_=>none
 | _=>none
def K0 (P:Program) (f:FuncId):Bool:=match P.funcs[f]? with
 | some fn => fn.body.isSome && fn.name != "runtime.NumGoroutine"
 | none=>false
theorem a9X {f:FuncId} {vs:List Value} {ob:List Prop} {o:Oper} {a:Act} {w:World} {n:Nat} (he:EnvOK n E a) (hf:K0 P f=true) (h:a6I E o.op=some (f,vs,ob)) (hob:Conj ob):(execOp a.eval o).run P w= .ok (.enter f vs.toArray) w:=by
 unfold a6I at h;split at h
 ·rename_i fo args ts hop;split at h
  ·rename_i k g fs cs t gg l h1 h2;simp only[l6,C4]at h;obtain⟨rfl,rfl,rfl⟩:=h;obtain⟨o1,o2⟩:=Conj.app hob;have e1:=evs he h1 o1;have e2:=Y4 he h2 o2;have e3:args.map a.eval=(vals l).toArray:=by apply Array.toList_inj.1;rw[Q0,e2]
   unfold K0 at hf;split at hf
   ·rename_i fn hfn;simp only[f7,Option.isSome_iff_exists,E6,H5]at hf;obtain⟨⟨c,hc⟩,hn⟩:=hf;have hvs:(fs++(vals l).toArray++cs)=(fs.toList++(vals l++cs.toList)).toArray:=by
     apply Array.toList_inj.1;simp
    simp[execOp,hop,resolve,e1,e3,Deferred.ofValue,invoke,callFunc,hfn,hn,hc,hvs]
   ·cases hf
  ·cases h
 ·cases h
theorem J.call (hX:IsCx X P rs N F Post) {ops:Array Oper} {C:Cl} {l:Bool} {i:Nat} {t:PT} {o:Oper} {g:G} {f:FuncId} {vs:List Value} {ob:List Prop} {Pre:List Atom} {Po:Value->List Atom->Prop} {E':Value->Env}
  (hf:K0 P f=true) (c:Fn P f vs Pre Po) (is:List Nat) (tag:Nat) (ho:J3 ops.toList i=some o) (hg:gd ops.toList E o=some g) (hgo:g.on=true) (hc:a6I E o.op=some (f,vs,ob)) (hob:Conj ob) (ok:P4 L is=true) (hp:N9 L is=Pre)
  (hd:∀v,W5 N o.dst v tag .tt E=some (E' v)) (hJ:∀v As,Po v As->∃L',a0W L is As=some L'/\Conj (M3 l C L')/\J X (.reg ops C t::K) (E' v) L'):J X (.reg ops C (.alt l i t .non)::K) E L:=by
 intro a w hx he hs;rw[J2]at ho;have ho':ops[i]? =some o:=by simpa using ho
 refine⟨⟨o,ho',?_⟩,trivial⟩;have hw:=a1h he hg;unfold sOp;rw[d8 (by rw[hw];exact hgo),a9X (P:=X.P) he (by rw[hX.hP];exact hf) hc hob];have hsp:=hs.split ok;rw[hp]at hsp;have hcall:=c (HP.of (a0O L is)) w hsp;rw[<- hX.hP]at hcall;refine Calls.mono hcall λe w' ⟨v,As,he',hpo,hs',hx'⟩=>⟨v,he',?_⟩;have hs2:=Sep.back ok hs';obtain⟨L',j0,j1,j2⟩:=hJ v As hpo;rw[<- a2W (a0s ok).1 j0]at hs2;exact⟨Q4 j1 hs2,j2 _ w' (hx.trans hx') (T6 he (by rw[hX.hN];exact hd v) v rfl) hs2⟩
theorem J.ca (hX:IsCx X P rs N F Post) {ops:Array Oper} {C:Cl} {l:Bool} {i:Nat} {t:PT} {o:Oper} {g:G} {f:FuncId} {vs:List Value} {ob:List Prop} {Pre:List Atom} {Po:Value->List Atom->Prop} {E':Value->Env}
  (hf:K0 P f=true) (c:Fn P f vs Pre Po) (is:List Nat) (tag:Nat) (ho:J3 ops.toList i=some o) (hg:gd ops.toList E o=some g) (hgo:g.on=true) (hc:a6I E o.op=some (f,vs,ob)) (ok:P4 L is=true) (hp:N9 L is=Pre)
  (hd:∀v,W5 N o.dst v tag .tt E=some (E' v)) (hJ:∀v As,Po v As->∃L',a0W L is As=some L'/\Conj (M3 l C L')/\J X (.reg ops C t::K) (E' v) L') (hob:Conj ob:=by(repeat' (first | exact Conj.nil | refine Conj.cons ?_ ?_ | omega | exact hq0 | (simpa using hq0) | (exactλh=>h) | exact rfl | (intro hq;have hq0:=hq;try simp only[f7,j6,d5,i4,c8]at hq) | (simp;done) | (simp;omega) | decide))):J X (.reg ops C (.alt l i t .non)::K) E L:=J.call hX hf c is tag ho hg hgo hc hob ok hp hd hJ
theorem J.gcase (hX:IsCx X P rs N F Post) {ops:Array Oper} {C:Cl} {l:Bool} {i:Nat} {t:PT} {o:Oper} {b:Bool} {E':Env} (ho:J3 ops.toList i=some o) (hg:gd ops.toList E o=some (.when b)) (hd:W5 N o.dst undef 0 (.when false) E=some E') (hst:Conj (M3 l C L))
  (h1:b=true->J X (.reg ops C (.alt l i t .non)::K) E L) (h2:b=false->J X (.reg ops C t::K) E' L):J X (.reg ops C (.alt l i t .non)::K) E L:=by
 intro a w hx he hs;cases b with
 | true=>exact h1 rfl a w hx he hs
 | false=>
  rw[J2]at ho;have ho':ops[i]? =some o:=by simpa using ho
  refine⟨⟨o,ho',?_⟩,trivial⟩;have hw:=a1h he hg;unfold sOp;rw[d6 (by rw[hw];simp[G.on])];exact⟨Q4 hst hs,h2 rfl _ w hx (T6 he (by rw[hX.hN];exact hd) _ rfl) hs⟩
theorem J.op (hX:IsCx X P rs N F Post) {ops:Array Oper} {C:Cl} {l:Bool} {i:Nat} {t:PT} {o:Oper} {g:G} {S:Value->List Atom->Prop} {E':Value->Env} (tag:Nat) (ho:J3 ops.toList i=some o) (hg:gd ops.toList E o=some g) (hgo:g.on=true)
  (hr:∀a w,EnvOK N E a->Sep L (hl w)->∃v L' nv w',S v L'/\(execOp a.eval o).run P w= .ok nv w'/\(nv= .value v\/(nv= .skip/\v=undef))/\Sep L' (hl w')/\Ext w w')
  (hd:∀v,W5 N o.dst v tag .tt E=some (E' v)) (hJ:∀v L',S v L'->Conj (M3 l C L')/\J X (.reg ops C t::K) (E' v) L'):J X (.reg ops C (.alt l i t .non)::K) E L:=by
 intro a w hx he hs;rw[J2]at ho;have ho':ops[i]? =some o:=by simpa using ho
 refine⟨⟨o,ho',?_⟩,trivial⟩;have hw:=a1h he hg;have he2:=he;rw[hX.hN]at he2;obtain⟨v,L',nv,w',r0,r1,r2,r3,r4⟩:=hr a w he2 hs;unfold sOp;rw[<- hX.hP]at r1;rw[d8 (by rw[hw];exact hgo),r1];obtain⟨j1,j2⟩:=hJ v L' r0;have he3:=T6 he2 (hd v) v rfl;rw[<- hX.hN]at he3;rcases r2 with rfl | ⟨rfl,rfl⟩
 ·exact⟨Q4 j1 r3,j2 _ w' (hx.trans r4) he3 r3⟩
 ·exact⟨Q4 j1 r3,j2 _ w' (hx.trans r4) he3 r3⟩
theorem J.val (hX:IsCx X P rs N F Post) {ops:Array Oper} {C:Cl} {l:Bool} {i:Nat} {t:PT} {o:Oper} {g:G} {E':Env} (v:Value) (tag:Nat) (ho:J3 ops.toList i=some o) (hg:gd ops.toList E o=some g)
  (hr:g.on=true->∀a w,EnvOK N E a->Sep L (hl w)->(execOp a.eval o).run P w= .ok (.value v) w)
  (hd:W5 N o.dst v tag g E=some E') (hst:Conj (M3 l C L)) (hJ:J X (.reg ops C t::K) E' L):J X (.reg ops C (.alt l i t .non)::K) E L:=by
 intro a w hx he hs;rw[J2]at ho;have ho':ops[i]? =some o:=by simpa using ho
 refine⟨⟨o,ho',?_⟩,trivial⟩;have hw:=a1h he hg;have he2:=he;rw[hX.hN]at he2;have he3:=T6 he2 hd _ rfl;rw[<- hX.hN]at he3;unfold sOp;cases hgo:g.on with
 | true=>
  have hr1:=hr hgo a w he2 hs;rw[<- hX.hP]at hr1;rw[d8 (by rw[hw];exact hgo),hr1];rw[hgo]at he3;exact⟨Q4 hst hs,hJ _ w hx he3 hs⟩
 | false=>
  rw[d6 (by rw[hw,hgo];simp)];rw[hgo]at he3;exact⟨Q4 hst hs,hJ _ w hx he3 hs⟩
theorem J.valT (hX:IsCx X P rs N F Post) {ops:Array Oper} {C:Cl} {p:Bool} {i:Nat} {t:PT} {o:Oper} {g:G} {E':Env} (v:Value) (tag:Nat) (ho:J3 ops.toList i=some o) (hg:gd ops.toList E o=some g)
  (hr:g.on=true->∀a w,EnvOK N E a->(p=false->CAt C w)->(execOp a.eval o).run P w= .ok (.value v) w)
  (hd:W5 N o.dst v tag g E=some E') (hJ:J X (.reg ops C t::K) E' L):J X (.reg ops C (.take p i t)::K) E L:=by
 intro a w hx he hs;rw[J2]at ho;have ho':ops[i]? =some o:=by simpa using ho
 have hw:=a1h he hg;have he2:=he;rw[hX.hN]at he2;have he3:=T6 he2 hd _ rfl;rw[<- hX.hN]at he3;cases hgo:g.on with
 | true=>
  rw[hgo]at he3;exact⟨o,v,ho', .inl ⟨by rw[hw];exact hgo,λw' hC=>by rw[hX.hP];exact hr hgo a w' he2 hC⟩,hJ _ w hx he3 hs⟩
 | false=>
  rw[hgo]at he3;exact⟨o,undef,ho', .inr ⟨by rw[hw];exact hgo,rfl⟩,hJ _ w hx he3 hs⟩
theorem J.slot {k:Nat} {s s':Slot} (h:E.get k=some s) (hk:s'.k=k) (hv:s'.val=s.val) (hJ:J X K (s'::E) L):J X K E L:=by
 intro a w hx he hs;refine hJ a w hx ⟨he.size,he.defers,λj u hu=>?_⟩ hs;simp only[Env.get]at hu;split at hu
 ·rename_i e;have:=C8 e;injection hu with hu;subst hu;rw[<- this,hk,hv];exact he.slot k s h
 ·exact he.slot j u hu
end
theorem Fn.of_same {P:Program} {f:FuncId} {args:List Value} {v:Value} (h:∀w:World,Calls P f args.toArray w λe w'=>e= .returned v/\w=w'):Fn P f args [] (λu As=>u=v/\As=[]):=λF w hs=>
 (h w).mono λe w' ⟨he,hb⟩=>by subst hb;exact⟨v,[],he,⟨rfl,rfl⟩,hs,Ext.refl _⟩

inductive Lk where
 | int (k:IntKind)
 | bool
def Lk.fits:Lk->Value->Prop
 | .int k, .int k' _=>k'=k
 | .bool, .bool _=>True
 | _,_=>False
def Fits:List Lk->List Value->Prop
 | [],[]=>True
 | k::ks,v::vs=>k.fits v/\Fits ks vs
 | _,_=>False
def a4G:Value->Value->Bool
 | .int _ a, .int _ b=>a==b
 | .bool a, .bool b=>a==b
 | _,_=>false
def H4:List Value->List Value->Bool
 | [],[]=>true
 | x::xs,y::ys=>a4G x y&&H4 xs ys
 | _,_=>false

theorem Fits.length:∀{ks:List Lk} {vs:List Value},Fits ks vs->vs.length=ks.length
 | [],[],_=>rfl
 | _::_,_::_,h=>by simpa using Fits.length h.2
 | [],_::_,h=>h.elim
 | _::_,[],h=>h.elim
theorem Fits.split:∀{a b:List Lk} {vs:List Value},Fits (a++b) vs->Fits a (vs.take a.length)/\Fits b (vs.drop a.length)
 | [],_,_,h=>⟨by trivial,h⟩
 | _::a,_,v::vs,h=>⟨⟨h.1,(Fits.split (a:=a) h.2).1⟩,(Fits.split (a:=a) h.2).2⟩
 | _::_,_,[],h=>h.elim
theorem Fits.append:∀{a b:List Lk} {xs ys:List Value},Fits a xs->Fits b ys->Fits (a++b) (xs++ys)
 | [],_,[],_,_,h=>h
 | _::a,_,_::_,_,h,h'=>⟨h.1,Fits.append (a:=a) h.2 h'⟩
 | [],_,_::_,_,h,_=>h.elim
 | _::_,_,[],_,h,_=>h.elim
theorem Y8:∀{a b c d:List Value},a.length=c.length->H4 (a++b) (c++d)=(H4 a c&&H4 b d)
 | [],_,[],_,_=>rfl
 | x::a,b,y::c,d,h=>by simp only[U6,H4,Y8 (a:=a) (c:=c) (by simpa using h),Bool.and_assoc]
 | [],_,_::_,_,h=>by simp at h
 | _::_,_,[],_,h=>by simp at h

def a2i (V7:TypeId->Option (List Lk)):List Field->Nat->Option (List Lk)
 | [],_=>some []
 | f::fs,off=>
  if f.name ≠ "_" ∧ f.offset = off then
   match V7 f.type with
   | some l=>match a2i V7 fs (off+l.length)with
    | some r=>some (l++r)
    | none=>none
   | none=>none
  else none
def V7 (P:Program):Nat->TypeId->Option (List Lk)
 | 0,_=>none
 | d+1,t=>
  match P.underlying t with
  | some .bool=>some [.bool]
  | some (.int k)=>some [.int k]
  | some (.struct fs)=>
   match a2i (V7 P d) fs.toList 0 with
   | some l=>if P.stoodInHeld t=false/\(P.info? t).map (·.size)=some l.length then some l else none
   | none=>none
  | some (.array n e)=>
   match V7 P d e with
   | some l=>if(P.info? e).map (·.size)=some l.length/\(P.info? t).map (·.size)=some (List.replicate n l).flatten.length then some (List.replicate n l).flatten else none
   | none=>none
  | _=>none

def mkV (P:Program) (t:TypeId) (cs:List Value):Value:=
 match P.underlying t with
 | some (.struct _) | some (.array _ _)=> .agg cs.toArray
 | _=>cs.headD undef

section
variable {P : Program}
theorem a3J {d:Nat} {t:TypeId} {l:List Lk} (h:V7 P d t=some l) (cs:List Value) (off:Nat) (hf:Fits l ((cs.drop off).take l.length)) (w:World):
  (part t cs.toArray off).run P w= .ok (mkV P t ((cs.drop off).take l.length)) w:=by
 cases d with
 | zero=>cases h
 | succ d=>
  unfold V7 at h;unfold mkV;cases hu:P.underlying t with
  | none=>rw[hu]at h;cases h
  | some u=>
   rw[hu]at h;cases u with
   | bool=>
    injection h with h;subst h;simp only[part,isAgg,Sem.run_bind,run_underlying hu,Result.andThen_ok,Sem.run_pure,H2,W0];have hl:=hf.length;cases hd:cs.drop off with
    | nil=>rw[hd]at hl;simp at hl
    | cons v r=>
     have:cs[off]? =some v:=by
      have:=congrArg (·[0]?) hd;simpa using this
     simp[this]
   | int k=>
    injection h with h;subst h;simp only[part,isAgg,Sem.run_bind,run_underlying hu,Result.andThen_ok,Sem.run_pure,H2,W0];have hl:=hf.length;cases hd:cs.drop off with
    | nil=>rw[hd]at hl;simp at hl
    | cons v r=>
     have:cs[off]? =some v:=by
      have:=congrArg (·[0]?) hd;simpa using this
     simp[this]
   | struct fs=>
    simp only at h;split at h
    ·split at h
     ·rename_i l' _ hc;injection h with h;subst h;cases hi:P.info? t with
      | none=>rw[hi]at hc;simp at hc
      | some i=>
       rw[hi]at hc;have hs:i.size=l'.length:=by simpa using hc.2
       simp only[part,isAgg,Sem.run_bind,run_underlying hu,Result.andThen_ok,Sem.run_pure,X7,sizeOf,typeInfo,run_program,hi,hs];congr 2;simp[List.extract_eq_take_drop]
     ·cases h
    ·cases h
   | array n e=>
    simp only at h;split at h
    ·split at h
     ·rename_i l' _ hc;injection h with h;subst h;cases hi:P.info? t with
      | none=>rw[hi]at hc;simp at hc
      | some i=>
       rw[hi]at hc;have hs:i.size=(List.replicate n l').flatten.length:=by simpa using hc.2
       simp only[part,isAgg,Sem.run_bind,run_underlying hu,Result.andThen_ok,Sem.run_pure,X7,sizeOf,typeInfo,run_program,hi,hs];congr 2;simp[List.extract_eq_take_drop]
     ·cases h
    ·cases h
   | _=>cases h

theorem a6C {t:TypeId} {fs:Array Field} (h:P.underlying t=some (.struct fs)):P.fieldsOf t=fs:=by simp[Program.fieldsOf,h]

theorem a3q {d D:Nat} (ih:∀t l,V7 P d t=some l->∀xs ys,Fits l xs->Fits l ys->∀w,(Op.equalIn D t (mkV P t xs) (mkV P t ys)).run P w= .ok (H4 xs ys) w) (xs ys:List Value):
  ∀(fs:List Field) (off:Nat) (r:List Lk),a2i (V7 P d) fs off=some r->Fits r (xs.drop off)->Fits r (ys.drop off)->∀w,(Op.eqFields D xs.toArray ys.toArray fs).run P w= .ok (H4 (xs.drop off) (ys.drop off)) w
 | [],off,r,h,hx,hy,w=>by
  injection h with h;subst h;have h1:=n5 (Fits.length hx);have h2:=n5 (Fits.length hy);rw[h1,h2];simp[Op.eqFields,H4]
 | f::fs,off,r,h,hx,hy,w=>by
  unfold a2i at h;split at h
  ·rename_i hc;split at h
   ·rename_i l hl;split at h
    ·rename_i r' hr;injection h with h;subst h;obtain⟨hx1,hx2⟩:=Fits.split hx;obtain⟨hy1,hy2⟩:=Fits.split hy;rw[C0]at hx2 hy2;have e:=a3q ih xs ys fs (off+l.length) r' hr hx2 hy2;have lx:=Fits.length hx1;have ly:=Fits.length hy1;unfold Op.eqFields;rw[d8 hc.1];simp only[Sem.run_bind,hc.2,a3J hl xs off hx1,a3J hl ys off hy1,Result.andThen_ok,ih _ _ hl _ _ hx1 hy1];have key:H4 (xs.drop off) (ys.drop off)=(H4 ((xs.drop off).take l.length) ((ys.drop off).take l.length)&&H4 (xs.drop (off+l.length)) (ys.drop (off+l.length))):=by
      conv=>lhs;rw[<- C9 l.length (xs.drop off),<- C9 l.length (ys.drop off)]
      rw[Y8 (by rw[lx,ly]),C0,C0]
     rw[key];cases H4 ((xs.drop off).take l.length) ((ys.drop off).take l.length)
     ·simp
     ·simp only[a1Z,H2,W0,q9];exact e w
    ·cases h
   ·cases h
  ·cases h

theorem a5l {e D m:Nat} {l:List Lk} (hm:m=l.length) (hpart:∀(cs:List Value) (off:Nat),Fits l ((cs.drop off).take l.length)->∀w,(part e cs.toArray off).run P w= .ok (mkV P e ((cs.drop off).take l.length)) w)
  (ih:∀xs ys,Fits l xs->Fits l ys->∀w,(Op.equalIn D e (mkV P e xs) (mkV P e ys)).run P w= .ok (H4 xs ys) w) (xs ys:List Value):
  ∀(k i:Nat),Fits (List.replicate k l).flatten (xs.drop (i*m))->Fits (List.replicate k l).flatten (ys.drop (i*m))->∀w,
   (forIn (List.range' i k) ((none,()):Option Bool×Unit) (λj (_:Option Bool×Unit)=>do
    let a <- part e xs.toArray (j*m)
    let b <- part e ys.toArray (j*m)
    let r <- Op.equalIn D e a b
    if(!r)=true then pure (ForInStep.done (some false,()))else do
     pure (ForInStep.yield (none,()))):Sem (Option Bool×Unit)).run P w= .ok (if H4 (xs.drop (i*m)) (ys.drop (i*m))then none else some false,()) w
 | 0,i,hx,hy,w=>by
  have h1:=n5 (Fits.length hx);have h2:=n5 (Fits.length hy);rw[h1,h2];simp[H4]
 | k+1,i,hx,hy,w=>by
  rw[a0n,List.flatten_cons]at hx hy;obtain⟨hx1,hx2⟩:=Fits.split hx;obtain⟨hy1,hy2⟩:=Fits.split hy;rw[C0]at hx2 hy2;have ei:i*m+l.length=(i+1)*m:=by rw[Nat.add_mul,hm];omega
  rw[ei]at hx2 hy2;have e':=a5l hm hpart ih xs ys k (i+1) hx2 hy2;have lx:=Fits.length hx1;have ly:=Fits.length hy1;rw[List.range'_succ,List.forIn_cons];simp only[Sem.run_bind,hpart xs _ hx1,hpart ys _ hy1,Result.andThen_ok,ih _ _ hx1 hy1];have key:H4 (xs.drop (i*m)) (ys.drop (i*m))=(H4 ((xs.drop (i*m)).take l.length) ((ys.drop (i*m)).take l.length)&&H4 (xs.drop ((i+1)*m)) (ys.drop ((i+1)*m))):=by
   conv=>lhs;rw[<- C9 l.length (xs.drop (i*m)),<- C9 l.length (ys.drop (i*m))]
   rw[Y8 (by rw[lx,ly]),C0,C0,ei]
  rw[key];cases H4 ((xs.drop (i*m)).take l.length) ((ys.drop (i*m)).take l.length)
  ·simp
  ·simp only[a1Z,H2,W0,q9,Sem.run_pure,Result.andThen_ok];exact e' w

theorem Y7:∀(d:Nat) (t:TypeId) (l:List Lk),V7 P d t=some l->∀D,d<=D->∀xs ys,Fits l xs->Fits l ys->∀w,(Op.equalIn D t (mkV P t xs) (mkV P t ys)).run P w= .ok (H4 xs ys) w
 | 0,_,_,h,_,_,_,_,_,_,_=>by cases h
 | d+1,t,l,h,0,hD,_,_,_,_,_=>by omega
 | d+1,t,l,h,D+1,hD,xs,ys,hx,hy,w=>by
  have ih:=λt l h xs ys hx hy w=>Y7 d t l h D (by omega) xs ys hx hy w;unfold V7 at h;unfold mkV;cases hu:P.underlying t with
  | none=>rw[hu]at h;cases h
  | some u=>
   rw[hu]at h;cases u with
   | bool=>
    injection h with h;subst h
    match xs,ys,hx,hy with
    | [.bool a],[.bool b],_,_=>simp[Op.equalIn,run_underlying hu,H4,a4G]
   | int k=>
    injection h with h;subst h
    match xs,ys,hx,hy with
    | [.int k1 a],[.int k2 b],h1,h2=>
     have e1:k1=k:=h1.1;have e2:k2=k:=h2.1;subst e1;subst e2;simp[Op.equalIn,run_underlying hu,H4,a4G]
   | struct fs=>
    simp only at h;split at h
    ·split at h
     ·rename_i l' hl hc;injection h with h;subst h;simp only;rw[run_equalIn_struct w D t _ _ (by rw[a6C hu];exact hu) hc.1,a6C hu];have:=a3q (P:=P) (λt l h xs ys hx hy w=>ih t l h xs ys hx hy w) xs ys fs.toList 0 l' hl (by simpa using hx) (by simpa using hy) w;simpa using this
     ·cases h
    ·cases h
   | array n e=>
    simp only at h;split at h
    ·split at h
     ·rename_i l' hl hc;injection h with h;subst h;cases hi:P.info? e with
      | none=>rw[hi]at hc;simp at hc
      | some i=>
       rw[hi]at hc;have hs:i.size=l'.length:=by simpa using hc.1
       have key:=a5l (P:=P) (e:=e) (D:=D) (m:=i.size) (l:=l') hs (λcs off hf w=>a3J hl cs off hf w) (λxs ys hx hy w=>ih e l' hl xs ys hx hy w) xs ys n 0 (by simpa using hx) (by simpa using hy) w;simp only[Op.equalIn,Sem.run_bind,run_underlying hu,Result.andThen_ok,sizeOf,typeInfo,run_program,hi,Sem.run_pure];simp only[P8,a1t]at key;rw[Std.Legacy.Range.forIn_eq_forIn_range'];simp only[Std.Legacy.Range.size,a2P,P6,Nat.div_one];rw[key];cases H4 xs ys<;>simp
     ·cases h
    ·cases h
   | _=>cases h

theorem a7G {t:TypeId} {l:List Lk} (h:V7 P 100 t=some l) {xs ys:List Value} (hx:Fits l xs) (hy:Fits l ys) (hagg:mkV P t xs= .agg xs.toArray) (hagg2:mkV P t ys= .agg ys.toArray) (w:World):
  (binOp .eql t (.agg xs.toArray) (.agg ys.toArray)).run P w= .ok (.bool (H4 xs ys)) w:=by
 rw[run_eql_struct,<- hagg,<- hagg2,Y7 100 t l h 10000 (by omega) xs ys hx hy];rfl
theorem a7E {t:TypeId} {l:List Lk} (h:V7 P 100 t=some l) {xs ys:List Value} (hx:Fits l xs) (hy:Fits l ys) (hagg:mkV P t xs= .agg xs.toArray) (hagg2:mkV P t ys= .agg ys.toArray) (w:World):
  (binOp .neq t (.agg xs.toArray) (.agg ys.toArray)).run P w= .ok (.bool (!H4 xs ys)) w:=by
 rw[run_neq_struct,<- hagg,<- hagg2,Y7 100 t l h 10000 (by omega) xs ys hx hy];rfl
end
end Go.Proofs.YtmafiplddapokaaGreat
