/- Helpers, proved here. No condition. -/
import Derived.Test.YtdocmcapegcoeaaGreatA28
import Derived.Test.YtdocmcapegcoeaaGreatA30
set_option maxRecDepth 20000
set_option linter.all false
namespace Go.Proofs.YtdocmcapegcoeaaGreat
open Go
theorem pkMin_least {f:Int->Int->Int} {key:Int->Int} (h1:∀x y,f x y<0->key x<=key y) (h2:∀x y,¬f x y<0->key y<=key x):∀(l:List Int) (m:Int),key (pkMin f l m)<=key m/\∀x∈l,key (pkMin f l m)<=key x
 | [],m=>⟨Int.le_refl _,λx hx=>(by cases hx)⟩
 | y::l,m=>by
  rw[pkMin];obtain⟨a1,a2⟩:=pkMin_least h1 h2 l (if f y m<0 then y else m);have hm:key (if f y m<0 then y else m)<=key m/\key (if f y m<0 then y else m)<=key y:=by
   split
   ·rename_i hh;exact⟨h1 _ _ hh,Int.le_refl _⟩
   ·rename_i hh;exact⟨Int.le_refl _,h2 _ _ hh⟩
  refine⟨by omega,λx hx=>?_⟩;rcases List.mem_cons.1 hx with rfl | hx
  ·omega
  ·exact a2 x hx
theorem or_lt {p q w:Int} (h:orI [cmpI p q,w]<0):p<=q:=by
 refine Classical.byContradiction λhp=>?_;have e:cmpI p q=1:=by unfold cmpI;rw[if_neg (by omega),if_pos (by omega)]
 rw[e]at h;exact absurd h (by show¬(if(1:Int)≠0 then(1:Int)else _)<0;rw[if_pos (by decide)];decide)
theorem or_nlt {p q w:Int} (h:¬orI [cmpI p q,w]<0):q<=p:=by
 refine Classical.byContradiction λhp=>h ?_;have e:cmpI p q= -1:=by unfold cmpI;rw[if_pos (by omega)]
 rw[e];show(if(-1:Int)≠0 then(-1:Int)else _)<0;rw[if_pos (by decide)];decide
theorem victim_least (S:Dv) {x:Int} (hx:x∈pkSome (pkUsed S.t S.T) S.op S.t.b):S.victim∈pkSome (pkUsed S.t S.T) S.op S.t.b/\S.T.count S.victim<=S.T.count x:=by
 unfold Dv.victim;cases hl:pkSome (pkUsed S.t S.T) S.op S.t.b with
 | nil=>rw[hl]at hx;cases hx
 | cons y l=>
  rw[hl]at hx;refine⟨pkLeast_mem _ (by simp),?_⟩;have key:=pkMin_least (f:=λx y=>orI [cmpI (S.T.count x) (S.T.count y),cmpI (S.t.wear x) (S.t.wear y)]) (key:=S.T.count) (λx y hh=>or_lt hh) (λx y hh=>or_nlt hh) l y;rcases List.mem_cons.1 hx with rfl | hx
  ·exact key.1
  ·exact key.2 x hx
theorem sum_cnt (l:List (Int×AtV)):∀Q:List Int,Q.Nodup->(Q.map λb=>Tb.cntB l b).sum<=l.length:=by
 induction l with
 | nil=>
  intro Q _;have:(Q.map λb=>Tb.cntB [] b).sum=0:=by
   induction Q with
   | nil=>rfl
   | cons b Q ih=>rw[List.map_cons,List.sum_cons,ih (by rename_i h;exact(List.nodup_cons.1 h).2)];rfl
  rw[this];exact Nat.zero_le _
 | cons x l ih=>
  intro Q hQ;have h1:(Q.map λb=>Tb.cntB (x::l) b).sum<=(Q.map λb=>Tb.cntB l b).sum+1:=by
   have h2:∀Q:List Int,Q.Nodup->(Q.map λb=>Tb.cntB (x::l) b).sum<=(Q.map λb=>Tb.cntB l b).sum+(if x.2.block∈Q then 1 else 0):=by
    intro Q
    induction Q with
    | nil=>intro _;exact Nat.le_refl _
    | cons b Q ihQ=>
     intro hn;obtain⟨n1,n2⟩:=List.nodup_cons.1 hn;have:=ihQ n2;rw[List.map_cons,List.sum_cons,List.map_cons,List.sum_cons];have hc:Tb.cntB (x::l) b=Tb.cntB l b+if x.2.block==b then 1 else 0:=by
      unfold Tb.cntB;rw[List.countP_cons]
     rw[hc]
     by_cases e:x.2.block=b
     ·subst e;rw[if_neg n1]at this;rw[if_pos (by simp),if_pos (by simp)];omega
     ·rw[if_neg (by simpa using e)]
      by_cases e2:x.2.block∈Q
      ·rw[if_pos e2]at this;rw[if_pos (by simp[e2])];omega
      ·rw[if_neg e2]at this;rw[if_neg (by simp[e,e2])];omega
   have:=h2 Q hQ;split at this<;>omega
  have:=ih Q hQ;rw[List.length_cons];omega
theorem min_mul (c:Nat):∀(Q:List Int) (f:Int->Nat),(∀b∈Q,c<=f b)->Q.length*c<=(Q.map f).sum
 | [],_,_=>by simp
 | b::Q,f,h=>by
  rw[List.length_cons,List.map_cons,List.sum_cons,Nat.succ_mul];have:=min_mul c Q f λx hx=>h x (by simp[hx]);have:=h b (by simp);omega
namespace Inv
variable {fd : Int} {S : Dv} {k m : Nat} {W : List (Int × En)}
theorem clear_hd (h:Inv fd S) (hO:S.Ok k m) (hH:Hd S W):∃N' t',S.clear=({S with N:=N',t:=t'},0)/\Cleared fd S (pkSome (pkSpent S.t S.T) S.op S.t.b) N' t'/\Hd {S with N:=N',t:=t'} W:=by
 obtain⟨N',t',c1,c2⟩:=h.clear_spec hO;refine⟨N',t',c1,c2,⟨hH.keys,λi e he=>?_⟩⟩;obtain⟨h1,a,h2,h3⟩:=hH.each i e he;refine⟨h1,a,h2,?_⟩;rw[(c2.reads i a (h.st i a h2) λhb=>(h.spent_er hO hb).emp i a h2 rfl).2];exact h3
end Inv
end Go.Proofs.YtdocmcapegcoeaaGreat
