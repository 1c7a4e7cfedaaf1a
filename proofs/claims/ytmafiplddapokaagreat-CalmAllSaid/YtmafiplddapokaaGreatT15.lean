/- Helpers. No condition. -/
import Derived.Test.YtmafiplddapokaaGreatT14
set_option maxRecDepth 20000
set_option linter.all false
namespace Go.Proofs.YtmafiplddapokaaGreat
section
open Go Go.RowKit
theorem b1X {α:Type} (m:Nat) (x:α):(List.replicate m [x]).flatten=List.replicate m x:=by
 induction m with
 | zero=>rfl
 | succ m ih=>rw[U5,List.flatten_cons,ih];rfl
theorem b1l (g:Int) (m:Nat) (hm:min (max g 0) 65536=(m:Int)):FP 69 [iI g] [] (λv As=>∃R Z,v=pp R.q/\As=a3G R Z/\Z.map (·.v)=Mv.new g):=by
 have hm1:m<=65536:=by omega
 refine FE [0] Tryz.func69 λX F hX=>?_;refine J.q λ_=>?_;have hmm:(if(if(65536:Int)<g then 65536 else g)>0 then(if(65536:Int)<g then 65536 else g)else 0)=(m:Int):=by split<;>(split<;>omega)
 rw[hmm];refine J.join (α:=Nat×Nat×Nat×Nat×Nat) (λx=>[⟨4,pp x.2.2.2.2,6, .tt⟩,si 3 m]) (λx=>[.hp F, .pt x.1 36 (List.replicate m [Value.int .u8 0,Value.int .u8 0,Value.int .u8 0,Value.int .u8 0,Value.int .u8 0,Value.int .u8 0,Value.int .u8 0,Value.int .u8 0,Value.int .u8 0,Value.int .u8 0,Value.int .u8 0,Value.int .u8 0,Value.int .u8 0,Value.int .u8 0,Value.int .u8 0,Value.int .u8 0]).flatten, .pt x.2.1 4 (List.replicate m [Value.bool false]).flatten, .pt x.2.2.1 60 (List.replicate m [Value.slice none 0 0]).flatten, .pt x.2.2.2.1 60 (List.replicate m [Value.slice none 0 0]).flatten, .pt x.2.2.2.2 68 [.slice (some ⟨x.1,0,none⟩) m m, .slice (some ⟨x.2.1,0,none⟩) m m, .slice (some ⟨x.2.2.1,0,none⟩) m m, .slice (some ⟨x.2.2.2.1,0,none⟩) m m]]) (λhj=>?_) (λx=>?_)
 ·refine J.plan (.take true 0 (.take true 2 (.take true 4 (.take true 6 (.alt false 1 ((.alt false 3 ((.alt false 5 ((.of [30,32,39,40])) (.alt false 7 ((.of [22,32,39,40])) .non))) (.alt false 5 ((.alt false 3 ((.of [30,32,39,40])) (.alt false 7 ((.of [14,32,39,40])) .non))) (.alt false 7 ((.alt false 3 ((.of [22,32,39,40])) (.alt false 5 ((.of [14,32,39,40])) .non))) .non)))) (.alt false 3 ((.alt false 1 ((.alt false 5 ((.of [30,32,39,40])) (.alt false 7 ((.of [22,32,39,40])) .non))) (.alt false 5 ((.alt false 1 ((.of [30,32,39,40])) (.alt false 7 ((.of [6,32,39,40])) .non))) (.alt false 7 ((.alt false 1 ((.of [22,32,39,40])) (.alt false 5 ((.of [6,32,39,40])) .non))) .non)))) (.alt false 5 ((.alt false 1 ((.alt false 3 ((.of [30,32,39,40])) (.alt false 7 ((.of [14,32,39,40])) .non))) (.alt false 3 ((.alt false 1 ((.of [30,32,39,40])) (.alt false 7 ((.of [6,32,39,40])) .non))) (.alt false 7 ((.alt false 1 ((.of [14,32,39,40])) (.alt false 3 ((.of [6,32,39,40])) .non))) .non)))) (.alt false 7 ((.alt false 1 ((.alt false 3 ((.of [22,32,39,40])) (.alt false 5 ((.of [14,32,39,40])) .non))) (.alt false 3 ((.alt false 1 ((.of [22,32,39,40])) (.alt false 5 ((.of [6,32,39,40])) .non))) (.alt false 5 ((.alt false 1 ((.of [14,32,39,40])) (.alt false 3 ((.of [6,32,39,40])) .non))) .non)))) .non)))))))) [8,9,10] [] (by rw[hX.hP];kernel_rfl) (by kernel_rfl) ?_;refine J.q λ_=>?_;refine J.alts ?_ ?_
  ·skip
   refine J.mk 2 λgn=>?_;refine J.qn 1 λ_=>?_;refine J.alts ?_ ?_
   ·skip
    refine J.mk 3 λgo=>?_;refine J.qn 1 λ_=>?_;refine J.alts ?_ ?_
    ·skip
     refine J.mk 4 λgm=>?_;refine J.qn 1 λ_=>?_;refine J.mk 5 λge=>?_;refine J.qn 4 λbq=>?_;exact J.goto [0,1,2,3,4,5] (hj (gn,go,gm,ge,bq 0)) ⟨rfl,rfl,trivial⟩ rfl rfl
    ·skip
     refine J.mk 4 λge=>?_;refine J.qn 1 λ_=>?_;refine J.mk 5 λgm=>?_;refine J.qn 4 λbq=>?_;exact J.goto [0,1,2,4,3,5] (hj (gn,go,gm,ge,bq 0)) ⟨rfl,rfl,trivial⟩ rfl rfl
   ·skip
    refine J.alts ?_ ?_
    ·skip
     refine J.mk 3 λgm=>?_;refine J.qn 1 λ_=>?_;refine J.alts ?_ ?_
     ·skip
      refine J.mk 4 λgo=>?_;refine J.qn 1 λ_=>?_;refine J.mk 5 λge=>?_;refine J.qn 4 λbq=>?_;exact J.goto [0,1,3,2,4,5] (hj (gn,go,gm,ge,bq 0)) ⟨rfl,rfl,trivial⟩ rfl rfl
     ·skip
      refine J.mk 4 λge=>?_;refine J.qn 1 λ_=>?_;refine J.mk 5 λgo=>?_;refine J.qn 4 λbq=>?_;exact J.goto [0,1,4,2,3,5] (hj (gn,go,gm,ge,bq 0)) ⟨rfl,rfl,trivial⟩ rfl rfl
    ·skip
     refine J.mk 3 λge=>?_;refine J.qn 1 λ_=>?_;refine J.alts ?_ ?_
     ·skip
      refine J.mk 4 λgo=>?_;refine J.qn 1 λ_=>?_;refine J.mk 5 λgm=>?_;refine J.qn 4 λbq=>?_;exact J.goto [0,1,3,4,2,5] (hj (gn,go,gm,ge,bq 0)) ⟨rfl,rfl,trivial⟩ rfl rfl
     ·skip
      refine J.mk 4 λgm=>?_;refine J.qn 1 λ_=>?_;refine J.mk 5 λgo=>?_;refine J.qn 4 λbq=>?_;exact J.goto [0,1,4,3,2,5] (hj (gn,go,gm,ge,bq 0)) ⟨rfl,rfl,trivial⟩ rfl rfl
  ·skip
   refine J.alts ?_ ?_
   ·skip
    refine J.mk 2 λgo=>?_;refine J.qn 1 λ_=>?_;refine J.alts ?_ ?_
    ·skip
     refine J.mk 3 λgn=>?_;refine J.qn 1 λ_=>?_;refine J.alts ?_ ?_
     ·skip
      refine J.mk 4 λgm=>?_;refine J.qn 1 λ_=>?_;refine J.mk 5 λge=>?_;refine J.qn 4 λbq=>?_;exact J.goto [0,2,1,3,4,5] (hj (gn,go,gm,ge,bq 0)) ⟨rfl,rfl,trivial⟩ rfl rfl
     ·skip
      refine J.mk 4 λge=>?_;refine J.qn 1 λ_=>?_;refine J.mk 5 λgm=>?_;refine J.qn 4 λbq=>?_;exact J.goto [0,2,1,4,3,5] (hj (gn,go,gm,ge,bq 0)) ⟨rfl,rfl,trivial⟩ rfl rfl
    ·skip
     refine J.alts ?_ ?_
     ·skip
      refine J.mk 3 λgm=>?_;refine J.qn 1 λ_=>?_;refine J.alts ?_ ?_
      ·skip
       refine J.mk 4 λgn=>?_;refine J.qn 1 λ_=>?_;refine J.mk 5 λge=>?_;refine J.qn 4 λbq=>?_;exact J.goto [0,3,1,2,4,5] (hj (gn,go,gm,ge,bq 0)) ⟨rfl,rfl,trivial⟩ rfl rfl
      ·skip
       refine J.mk 4 λge=>?_;refine J.qn 1 λ_=>?_;refine J.mk 5 λgn=>?_;refine J.qn 4 λbq=>?_;exact J.goto [0,4,1,2,3,5] (hj (gn,go,gm,ge,bq 0)) ⟨rfl,rfl,trivial⟩ rfl rfl
     ·skip
      refine J.mk 3 λge=>?_;refine J.qn 1 λ_=>?_;refine J.alts ?_ ?_
      ·skip
       refine J.mk 4 λgn=>?_;refine J.qn 1 λ_=>?_;refine J.mk 5 λgm=>?_;refine J.qn 4 λbq=>?_;exact J.goto [0,3,1,4,2,5] (hj (gn,go,gm,ge,bq 0)) ⟨rfl,rfl,trivial⟩ rfl rfl
      ·skip
       refine J.mk 4 λgm=>?_;refine J.qn 1 λ_=>?_;refine J.mk 5 λgn=>?_;refine J.qn 4 λbq=>?_;exact J.goto [0,4,1,3,2,5] (hj (gn,go,gm,ge,bq 0)) ⟨rfl,rfl,trivial⟩ rfl rfl
   ·skip
    refine J.alts ?_ ?_
    ·skip
     refine J.mk 2 λgm=>?_;refine J.qn 1 λ_=>?_;refine J.alts ?_ ?_
     ·skip
      refine J.mk 3 λgn=>?_;refine J.qn 1 λ_=>?_;refine J.alts ?_ ?_
      ·skip
       refine J.mk 4 λgo=>?_;refine J.qn 1 λ_=>?_;refine J.mk 5 λge=>?_;refine J.qn 4 λbq=>?_;exact J.goto [0,2,3,1,4,5] (hj (gn,go,gm,ge,bq 0)) ⟨rfl,rfl,trivial⟩ rfl rfl
      ·skip
       refine J.mk 4 λge=>?_;refine J.qn 1 λ_=>?_;refine J.mk 5 λgo=>?_;refine J.qn 4 λbq=>?_;exact J.goto [0,2,4,1,3,5] (hj (gn,go,gm,ge,bq 0)) ⟨rfl,rfl,trivial⟩ rfl rfl
     ·skip
      refine J.alts ?_ ?_
      ·skip
       refine J.mk 3 λgo=>?_;refine J.qn 1 λ_=>?_;refine J.alts ?_ ?_
       ·skip
        refine J.mk 4 λgn=>?_;refine J.qn 1 λ_=>?_;refine J.mk 5 λge=>?_;refine J.qn 4 λbq=>?_;exact J.goto [0,3,2,1,4,5] (hj (gn,go,gm,ge,bq 0)) ⟨rfl,rfl,trivial⟩ rfl rfl
       ·skip
        refine J.mk 4 λge=>?_;refine J.qn 1 λ_=>?_;refine J.mk 5 λgn=>?_;refine J.qn 4 λbq=>?_;exact J.goto [0,4,2,1,3,5] (hj (gn,go,gm,ge,bq 0)) ⟨rfl,rfl,trivial⟩ rfl rfl
      ·skip
       refine J.mk 3 λge=>?_;refine J.qn 1 λ_=>?_;refine J.alts ?_ ?_
       ·skip
        refine J.mk 4 λgn=>?_;refine J.qn 1 λ_=>?_;refine J.mk 5 λgo=>?_;refine J.qn 4 λbq=>?_;exact J.goto [0,3,4,1,2,5] (hj (gn,go,gm,ge,bq 0)) ⟨rfl,rfl,trivial⟩ rfl rfl
       ·skip
        refine J.mk 4 λgo=>?_;refine J.qn 1 λ_=>?_;refine J.mk 5 λgn=>?_;refine J.qn 4 λbq=>?_;exact J.goto [0,4,3,1,2,5] (hj (gn,go,gm,ge,bq 0)) ⟨rfl,rfl,trivial⟩ rfl rfl
    ·skip
     refine J.mk 2 λge=>?_;refine J.qn 1 λ_=>?_;refine J.alts ?_ ?_
     ·skip
      refine J.mk 3 λgn=>?_;refine J.qn 1 λ_=>?_;refine J.alts ?_ ?_
      ·skip
       refine J.mk 4 λgo=>?_;refine J.qn 1 λ_=>?_;refine J.mk 5 λgm=>?_;refine J.qn 4 λbq=>?_;exact J.goto [0,2,3,4,1,5] (hj (gn,go,gm,ge,bq 0)) ⟨rfl,rfl,trivial⟩ rfl rfl
      ·skip
       refine J.mk 4 λgm=>?_;refine J.qn 1 λ_=>?_;refine J.mk 5 λgo=>?_;refine J.qn 4 λbq=>?_;exact J.goto [0,2,4,3,1,5] (hj (gn,go,gm,ge,bq 0)) ⟨rfl,rfl,trivial⟩ rfl rfl
     ·skip
      refine J.alts ?_ ?_
      ·skip
       refine J.mk 3 λgo=>?_;refine J.qn 1 λ_=>?_;refine J.alts ?_ ?_
       ·skip
        refine J.mk 4 λgn=>?_;refine J.qn 1 λ_=>?_;refine J.mk 5 λgm=>?_;refine J.qn 4 λbq=>?_;exact J.goto [0,3,2,4,1,5] (hj (gn,go,gm,ge,bq 0)) ⟨rfl,rfl,trivial⟩ rfl rfl
       ·skip
        refine J.mk 4 λgm=>?_;refine J.qn 1 λ_=>?_;refine J.mk 5 λgn=>?_;refine J.qn 4 λbq=>?_;exact J.goto [0,4,2,3,1,5] (hj (gn,go,gm,ge,bq 0)) ⟨rfl,rfl,trivial⟩ rfl rfl
      ·skip
       refine J.mk 3 λgm=>?_;refine J.qn 1 λ_=>?_;refine J.alts ?_ ?_
       ·skip
        refine J.mk 4 λgn=>?_;refine J.qn 1 λ_=>?_;refine J.mk 5 λgo=>?_;refine J.qn 4 λbq=>?_;exact J.goto [0,3,4,2,1,5] (hj (gn,go,gm,ge,bq 0)) ⟨rfl,rfl,trivial⟩ rfl rfl
       ·skip
        refine J.mk 4 λgo=>?_;refine J.qn 1 λ_=>?_;refine J.mk 5 λgn=>?_;refine J.qn 4 λbq=>?_;exact J.goto [0,4,3,2,1,5] (hj (gn,go,gm,ge,bq 0)) ⟨rfl,rfl,trivial⟩ rfl rfl
 obtain⟨gn,go,gm,ge,bq⟩:=x;dsimp only;rw[show(List.replicate m [Value.int .u8 0,Value.int .u8 0,Value.int .u8 0,Value.int .u8 0,Value.int .u8 0,Value.int .u8 0,Value.int .u8 0,Value.int .u8 0,Value.int .u8 0,Value.int .u8 0,Value.int .u8 0,Value.int .u8 0,Value.int .u8 0,Value.int .u8 0,Value.int .u8 0,Value.int .u8 0]).flatten=a1a (List.replicate m MSl.none0)from by unfold a1a;rw[T7,Q2];rfl,show(List.replicate m [Value.bool false]).flatten=opC (List.replicate m MSl.none0)from by unfold opC;rw[Q2,b1X];rfl];rw[show(List.replicate m [Value.slice none 0 0]).flatten=a0q (List.replicate m MSl.none0)from by unfold a0q;rw[Q2,b1X];rfl];refine J.turn1 [] rfl (As:=[.hp (HP.of ((List.replicate m MSl.none0).map MSl.m1)), .hp (HP.of ((List.replicate m MSl.none0).map MSl.m2))]) (λh s=>MSl.hps m h) rfl ?_;refine J.q λ_=>?_;refine J.lo (α:=(Nat×List MSl)) (λz=>z.1<=m/\z.2.length=m/\z.2.map (·.v)=List.replicate z.1 Mv.page0++List.replicate (m-z.1) MSl.none0.v) (λz=>[si 5 z.1,⟨4,pp bq,6, .tt⟩,si 3 m]) [1,2,3,4,6,7] (λz=>[.pt gn 36 (a1a z.2), .pt go 4 (opC z.2), .pt gm 60 (a0q z.2), .pt ge 60 (Y0 z.2), .hp (HP.of (z.2.map MSl.m1)), .hp (HP.of (z.2.map MSl.m2))]) (λz=>m-z.1) ((0,List.replicate m MSl.none0)) (⟨j8 _,L7,by simp⟩) rfl ?_ (λ_=>rfl) λz hI=>?_
 ·dsimp only;rw[show Y0 (List.replicate m MSl.none0)=a0q (List.replicate m MSl.none0)from by unfold Y0 a0q;rw[Q2,Q2];rfl];rfl
 obtain⟨k,Z⟩:=z;dsimp only at hI ⊢;obtain⟨hk,hZl,hZ⟩:=hI;refine J.qd (λ_ h1=>?_) λ_ h1=>?_
 ·simp only[d6,i6]at h1;obtain⟨z,hz⟩:∃z,Z[k]? =some z:=⟨_,c9 (by omega)⟩;refine J.openAt 6 k rfl rfl (by rw[i5,hz];rfl) rfl ?_;refine J.openAt 7 k rfl rfl (by rw[i5,hz];rfl) rfl ?_;refine J.pn 12 (.take true 0 (.take true 1 (.take true 2 (.take false 3 (.take true 4 (.take true 5 (.take true 6 (.take true 7 (.take false 8 (.take true 9 (.take true 10 (.take true 12 (.alt false 11 ((.take true 14 (.alt false 13 ((.of [62,64,71])) (.alt false 15 ((.of [54,64,71])) .non)))) (.alt false 13 ((.of [46,56,62,64,71])) .non)))))))))))))) [16,17] [5] λ_ _=>?_;refine J.join (α:=Nat×Nat) (λ_=>[si 5 k,⟨4,pp bq,6, .tt⟩,si 3 m]) (λx=>[.hp F, .pt gn 36 (a1a Z), .pt go 4 (opC Z), .pt gm 60 (a0q (Z.set k ⟨⟨z.v.now,z.v.op,[Mv.z16],z.v.ever⟩,some x.1,1,z.a2,z.c2⟩)), .pt ge 60 (Y0 (Z.set k ⟨⟨z.v.now,z.v.op,[Mv.z16],[Mv.z16]⟩,some x.1,1,some x.2,1⟩)), .pt bq 68 [.slice (some ⟨gn,0,none⟩) m m, .slice (some ⟨go,0,none⟩) m m, .slice (some ⟨gm,0,none⟩) m m, .slice (some ⟨ge,0,none⟩) m m], .hp (HP.of ((Z.map MSl.m1).set k .emp)), .hp (HP.of ((Z.map MSl.m2).set k .emp)),l9 36 16 (some x.1) 1 1 (H3 [Mv.z16]),l9 36 16 (some x.2) 1 1 (H3 [Mv.z16])]) (λhj=>?_) (λx=>?_)
  ·refine J.alts ?_ ?_
   ·skip
    refine J.qn 1 λba=>?_;refine J.cO 36 16 1 1 (H3 [Mv.z16]) 10 ?_;refine J.qn 1 λ_=>?_;refine J.alts ?_ ?_
    ·skip
     refine J.qn 1 λbb=>?_;refine J.cO 36 16 1 1 (H3 [Mv.z16]) 11 ?_;refine J.s1 3 (a0q (Z.set k ⟨⟨z.v.now,z.v.op,[Mv.z16],z.v.ever⟩,some (ba 0),1,z.a2,z.c2⟩)) ?_ ?_ ?_
     ·rw[a0z];omega
     ·rw[show 0+(k:Int).toNat*1=k from by omega,<- a0y];rfl
     refine J.qn 1 λ_=>?_;refine J.s1 4 (Y0 (Z.set k ⟨⟨z.v.now,z.v.op,[Mv.z16],[Mv.z16]⟩,some (ba 0),1,some (bb 0),1⟩)) ?_ ?_ ?_
     ·rw[a1W];omega
     ·rw[show 0+(k:Int).toNat*1=k from by omega,<- a1V];rfl
     exact J.goto [0,1,2,3,4,5,6,7,10,11] (hj ((ba 0),(bb 0))) ⟨rfl,rfl,rfl,trivial⟩ rfl rfl
    ·skip
     refine J.s1 3 (a0q (Z.set k ⟨⟨z.v.now,z.v.op,[Mv.z16],z.v.ever⟩,some (ba 0),1,z.a2,z.c2⟩)) ?_ ?_ ?_
     ·rw[a0z];omega
     ·rw[show 0+(k:Int).toNat*1=k from by omega,<- a0y];rfl
     refine J.qn 1 λbb=>?_;refine J.cO 36 16 1 1 (H3 [Mv.z16]) 11 ?_;refine J.qn 1 λ_=>?_;refine J.s1 4 (Y0 (Z.set k ⟨⟨z.v.now,z.v.op,[Mv.z16],[Mv.z16]⟩,some (ba 0),1,some (bb 0),1⟩)) ?_ ?_ ?_
     ·rw[a1W];omega
     ·rw[show 0+(k:Int).toNat*1=k from by omega,<- a1V];rfl
     exact J.goto [0,1,2,3,4,5,6,7,10,11] (hj ((ba 0),(bb 0))) ⟨rfl,rfl,rfl,trivial⟩ rfl rfl
   ·skip
    refine J.qn 1 λbb=>?_;refine J.cO 36 16 1 1 (H3 [Mv.z16]) 10 ?_;refine J.qn 1 λba=>?_;refine J.cO 36 16 1 1 (H3 [Mv.z16]) 11 ?_;refine J.qn 1 λ_=>?_;refine J.s1 3 (a0q (Z.set k ⟨⟨z.v.now,z.v.op,[Mv.z16],z.v.ever⟩,some (ba 0),1,z.a2,z.c2⟩)) ?_ ?_ ?_
    ·rw[a0z];omega
    ·rw[show 0+(k:Int).toNat*1=k from by omega,<- a0y];rfl
    refine J.qn 1 λ_=>?_;refine J.s1 4 (Y0 (Z.set k ⟨⟨z.v.now,z.v.op,[Mv.z16],[Mv.z16]⟩,some (ba 0),1,some (bb 0),1⟩)) ?_ ?_ ?_
    ·rw[a1W];omega
    ·rw[show 0+(k:Int).toNat*1=k from by omega,<- a1V];rfl
    exact J.goto [0,1,2,3,4,5,6,7,11,10] (hj ((ba 0),(bb 0))) ⟨rfl,rfl,rfl,trivial⟩ rfl rfl
  obtain⟨ga,gb⟩:=x;dsimp only;obtain⟨y,hy⟩:∃y:MSl,y=⟨⟨z.v.now,z.v.op,[Mv.z16],[Mv.z16]⟩,some ga,1,some gb,1⟩:=⟨_,rfl⟩;rw[<- hy,show a0q (Z.set k ⟨⟨z.v.now,z.v.op,[Mv.z16],z.v.ever⟩,some ga,1,z.a2,z.c2⟩)=a0q (Z.set k y)from by rw[hy];unfold a0q;rw[A6,A6],show a1a Z=a1a (Z.set k y)from(b0n (λz=>H4 z.v.now) hz (by rw[hy])).symm,show opC Z=opC (Z.set k y)from(a4c (λz=>Value.bool z.v.op) hz (by rw[hy])).symm,show l9 36 16 (some ga) 1 1 (H3 [Mv.z16])=y.m1 from by rw[hy];rfl,show l9 36 16 (some gb) 1 1 (H3 [Mv.z16])=y.m2 from by rw[hy];rfl];refine J.closeAt (A:=y.m1) 6 8 k rfl rfl rfl ?_;refine J.closeAt (A:=y.m2) 7 9 k rfl rfl rfl ?_;rw[<- A6,<- A6];have hzv:z.v=MSl.none0.v:=by
   have h2:(Z.map (·.v))[k]? =some z.v:=by rw[i5,hz];rfl
   rw[hZ,B1 (by simp),L7,E7,d7 (by omega)]at h2;injection h2 with h2;exact h2.symm
  have hyv:y.v=Mv.page0:=by rw[hy];show(⟨z.v.now,z.v.op,[Mv.z16],[Mv.z16]⟩:MPv)=_;rw[hzv];rfl
  have hZ2:(Z.set k y).map (·.v)=List.replicate (k+1) Mv.page0++List.replicate (m-(k+1)) MSl.none0.v:=by
   rw[A6,hZ,hyv,show m-k=(m-(k+1))+1 from by omega,U5 (n:=m-(k+1)),O9 _ _ (by simp),L7,U3,a0a,a4G (n:=k),m9];rfl
  refine J.q λ_=>?_;refine J.n ((k+1,Z.set k y)) (⟨by dsimp only;omega,by dsimp only;rw[A5];exact hZl,hZ2⟩) (by dsimp only;omega) [0,1,2,3,4,5,6,7]
 simp only[c8,i6]at h1;obtain rfl:k=m:=by omega
 refine J.qr [5,1,2,3,4,6,7] λ_=>?_;refine⟨⟨bq,gn,go,gm,ge⟩,Z,rfl,?_,?_⟩
 ·rw[<- hZl];rfl
 ·rw[hZ,U3];unfold Mv.new;rw[hm];simp
theorem b6j (R:RAd) (Z:List MSl) (hn:Z.length<=65536):FP 74 [pp R.q] (a3G R Z) (λv As=>∃Z',v= .tuple #[]/\As=a3G R Z'/\Z'.map (·.v)=Mv.flush (Z.map (·.v))):=by
 refine FE [2] Tryz.func74 λX F hX=>?_;refine J.q λ_=>?_;refine J.l (α:=(Nat×List MSl)) (λz=>z.1<=Z.length/\z.2.length=Z.length/\z.2.map (·.v)=((Z.map (·.v)).take z.1).map Mv.fl1++(Z.map (·.v)).drop z.1) (λz=>[si 2 z.1,⟨0,pp R.q,2, .tt⟩]) [2,3,4,5,6,7] (λz=>[.pt R.n 36 (a1a z.2), .pt R.o 4 (opC z.2), .pt R.m 60 (a0q z.2), .pt R.e 60 (Y0 z.2), .hp (HP.of (z.2.map MSl.m1)), .hp (HP.of (z.2.map MSl.m2))]) (λz=>Z.length-z.1) ((0,Z)) (⟨j8 _,rfl,rfl⟩) λz hI=>?_;obtain⟨k,Y⟩:=z;dsimp only at hI ⊢;obtain⟨hk,hYl,hY⟩:=hI;refine J.qd (λ_ h1=>?_) λ_ h1=>?_
 ·simp only[d6,i6]at h1;obtain⟨z,hz⟩:∃z,Y[k]? =some z:=⟨_,c9 (by omega)⟩;have hupd:∀y:MSl,y.v=Mv.fl1 z.v->(Y.set k y).map (·.v)=((Z.map (·.v)).take (k+1)).map Mv.fl1++(Z.map (·.v)).drop (k+1):=λy hy=>by
   rw[A6,hy];exact a7I hY (by simpa using h1) (by rw[i5,hz];rfl)
  refine J.qn 11 λ_=>?_;refine J.v (.bool z.v.op) rfl rfl (λhg aa w he hw=>B6 tk rfl rfl he rfl rfl rfl (hw.get (i:=3) rfl) (by rw[show 0+(k:Int).toNat*1=k from by omega];exact b3v hz)) ?_;refine J.qd (λ_ h2=>?_) λ_ h2=>?_
  ·have ho:z.v.op=false:=by simpa using h2
   refine J.openAt 6 k rfl rfl (by rw[i5,hz];rfl) rfl ?_;refine J.pn 11 (.of [0,4,8,13,16,20,24,28,33,36,40,45,50,52,59]) [13,14] [1,2] λ_ _=>?_;refine J.vT (a5d z.v.now) rfl rfl (λhg aa w he hC=>H7 tk rfl rfl he rfl rfl rfl (hC rfl _ (C0 (i:=2) rfl)) (by rw[show 0+(k:Int).toNat*16=k*16 from by omega];exact b4u hz) rfl) ?_;refine J.qn 1 λbb=>?_;refine J.cO 36 16 1 1 (H3 [z.v.now]) 9 ?_;refine J.qn 1 λ_=>?_;refine J.s1 4 (a0q (Y.set k ⟨⟨z.v.now,z.v.op,[z.v.now],z.v.ever⟩,some (bb 0),1,z.a2,z.c2⟩)) ?_ ?_ ?_
   ·rw[a0z];omega
   ·rw[show 0+(k:Int).toNat*1=k from by omega,<- a0y];rfl
   obtain⟨y,hy⟩:∃y:MSl,y=⟨⟨z.v.now,z.v.op,[z.v.now],z.v.ever⟩,some (bb 0),1,z.a2,z.c2⟩:=⟨_,rfl⟩;rw[<- hy,show l9 36 16 (some (bb 0)) 1 1 (H3 [z.v.now])=y.m1 from by rw[hy];rfl];refine J.closeAt (A:=y.m1) 6 9 k rfl rfl rfl ?_;rw[<- A6,<- MSl.map_m2 (y:=y) hz (MSl.m2_of (by rw[hy]) (by rw[hy]) (by rw[hy])),show a1a Y=a1a (Y.set k y)from(b0n (λz=>H4 z.v.now) hz (by rw[hy])).symm,show opC Y=opC (Y.set k y)from(a4c (λz=>Value.bool z.v.op) hz (by rw[hy])).symm,show Y0 Y=Y0 (Y.set k y)from(a4c (λz=>slv z.a2 z.v.ever.length z.c2) hz (by rw[hy])).symm];refine J.q λ_=>?_;refine J.n ((k+1,Y.set k y)) (⟨by dsimp only;omega,by dsimp only;rw[A5];exact hYl,hupd y (by rw[hy];unfold Mv.fl1;rw[ho];rfl)⟩) (by dsimp only;omega) [0,1,2,3,4,5,6,7]
  ·have ho:z.v.op=true:=by simpa using h2
   refine J.q λ_=>?_;refine J.n ((k+1,Y)) (⟨by dsimp only;omega,hYl,by have:=hupd z (by unfold Mv.fl1;rw[ho];rfl);rwa [a1Z hz]at this⟩) (by dsimp only;omega) [0,1,2,3,4,5,6,7]
 simp only[c8,i6]at h1;obtain rfl:k=Z.length:=by omega
 refine J.q λ_=>?_;refine J.f [1,2,3,4,5,6,7] ?_;refine⟨Y,rfl,?_,?_⟩
 ·unfold a3G;rw[hYl];rfl
 ·rw[hY,x9 (by simp),Y4 (by simp),l8];rfl
theorem c0K (R:RAd) (Z:List MSl) (hn:Z.length<=65536) (hf:∀z∈Z,z.Fine) (i:Int) (d:List UInt8) (hd:d.length=16):FP 72 [pp R.q,iI i,a5d d] (a3G R Z) (λv As=>∃Z',v= .bool (Mv.may (Z.map (·.v)) i d)/\As=a3G R Z'/\Z'.map (·.v)=Mv.saw (Z.map (·.v)) i d):=by
 refine FE [2,0,0] Tryz.func72 λX F hX=>?_;refine J.qp (b2K R Z hn hf i d hd) [1,2,3,4,5,6,7] λ_=>?_;refine J.qd (λ_ h1=>?_) λ_ h1=>?_
 ·have hm:Mv.may (Z.map (·.v)) i d=false:=by simpa using h1
  refine J.qr [1,2,3,4,5,6,7] λ_=>?_;exact⟨Z,by rw[hm],rfl,by unfold Mv.saw;rw[hm];rfl⟩
 have hm:Mv.may (Z.map (·.v)) i d=true:=by simpa using h1
 have hin:Mv.inR (Z.map (·.v)) i=true:=by
  unfold Mv.may at hm;exact(Bool.and_eq_true_iff.1 hm).1
 have hi:0<=i/\i<(Z.length:Int):=by
  unfold Mv.inR at hin;rw[j5]at hin;simpa using hin
 obtain⟨k,rfl⟩:=f9 hi.1;obtain⟨z,hz⟩:∃z,Z[k]? =some z:=⟨_,c9 (by omega)⟩;have hpg:Mv.pg (Z.map (·.v)) (k:Int)=z.v:=by unfold Mv.pg;rw[i9,d5,i5,hz];rfl
 have hsv:∀y:MSl,y.v=Mv.seen z.v d->(Z.set k y).map (·.v)=Mv.saw (Z.map (·.v)) (k:Int) d:=λy hy=>by
  unfold Mv.saw;rw[hm,d7 rfl,hpg,A6,i9,hy]
 refine J.qn 10 λ_=>?_;refine J.v (.bool z.v.op) rfl rfl (λhg aa w he hw=>B6 tk rfl rfl he rfl rfl rfl (hw.get (i:=3) rfl) (by rw[show 0+(k:Int).toNat*1=k from by omega];exact b3v hz)) ?_;refine J.qd (λ_ h2=>?_) λ_ h2=>?_
 ·refine J.openAt 6 k rfl rfl (by rw[i5,hz];rfl) rfl ?_;refine J.p (.take true 0 (.take true 1 (.take true 2 (.take false 3 (.take true 4 (.take true 5 (.take true 6 (.take true 7 (.take false 8 (.take true 9 (.take true 10 (.take true 11 (.take true 12 (.take false 13 (.take true 14 (.take false 15 (.take false 16 (.take true 18 (.alt false 17 ((.of [78,80,86,88,95])) (.alt false 19 ((.take true 20 (.alt false 17 ((.of [86,88,95])) (.alt false 21 ((.of [70,88,95])) .non)))) .non)))))))))))))))))))) [22,23] [1,8] λ_=>?_;have hst:=b2j hz ⟨⟨d,z.v.op,z.v.may,z.v.ever⟩,z.a1,z.c1,z.a2,z.c2⟩;refine J.qn 18 λ_=>?_;refine J.join (α:=Nat) (λ_=>[sv 6 (.bool false)]) (λx=>[.hp F, .pt R.q 68 [.slice (some ⟨R.n,0,none⟩) Z.length Z.length, .slice (some ⟨R.o,0,none⟩) Z.length Z.length, .slice (some ⟨R.m,0,none⟩) Z.length Z.length, .slice (some ⟨R.e,0,none⟩) Z.length Z.length], .pt R.n 36 (a1a (Z.set k ⟨⟨d,z.v.op,z.v.may,z.v.ever⟩,z.a1,z.c1,z.a2,z.c2⟩)), .pt R.o 4 (opC (Z.set k ⟨⟨d,false,z.v.may,z.v.ever⟩,z.a1,z.c1,z.a2,z.c2⟩)), .pt R.m 60 (a0q (Z.set k ⟨⟨d,false,[d],z.v.ever⟩,some x,1,z.a2,z.c2⟩)), .pt R.e 60 (Y0 Z), .hp (HP.of ((Z.map MSl.m1).set k .emp)), .hp (HP.of (Z.map MSl.m2)),l9 36 16 (some x) 1 1 (H3 [d])]) (λhj=>?_) (λx=>?_)
  ·refine J.alts ?_ ?_
   ·skip
    refine J.qn 1 λbb=>?_;refine J.cO 36 16 1 1 (H3 [d]) 10 ?_;refine J.sN (H4 d) 2 (a1a (Z.set k ⟨⟨d,z.v.op,z.v.may,z.v.ever⟩,z.a1,z.c1,z.a2,z.c2⟩)) ?_ ?_ ?_
    ·rw[a8n];show 0+(k:Int).toNat*16+16<=_;omega
    ·rw[show 0+(k:Int).toNat*16=k*16 from by omega];exact hst
    refine J.qn 1 λ_=>?_;refine J.s1 3 (opC (Z.set k ⟨⟨d,false,z.v.may,z.v.ever⟩,z.a1,z.c1,z.a2,z.c2⟩)) ?_ ?_ ?_
    ·rw[a7w];omega
    ·rw[show 0+(k:Int).toNat*1=k from by omega,<- a7v]
    refine J.qn 1 λ_=>?_;refine J.s1 4 (a0q (Z.set k ⟨⟨d,false,[d],z.v.ever⟩,some (bb 0),1,z.a2,z.c2⟩)) ?_ ?_ ?_
    ·rw[a0z];omega
    ·rw[show 0+(k:Int).toNat*1=k from by omega,<- a0y];rfl
    exact J.goto [0,1,2,3,4,5,6,7,10] (hj (bb 0)) ⟨rfl,trivial⟩ rfl rfl
   ·skip
    refine J.sN (H4 d) 2 (a1a (Z.set k ⟨⟨d,z.v.op,z.v.may,z.v.ever⟩,z.a1,z.c1,z.a2,z.c2⟩)) ?_ ?_ ?_
    ·rw[a8n];show 0+(k:Int).toNat*16+16<=_;omega
    ·rw[show 0+(k:Int).toNat*16=k*16 from by omega];exact hst
    refine J.qn 1 λ_=>?_;refine J.alts ?_ ?_
    ·skip
     refine J.qn 1 λbb=>?_;refine J.cO 36 16 1 1 (H3 [d]) 10 ?_;refine J.s1 3 (opC (Z.set k ⟨⟨d,false,z.v.may,z.v.ever⟩,z.a1,z.c1,z.a2,z.c2⟩)) ?_ ?_ ?_
     ·rw[a7w];omega
     ·rw[show 0+(k:Int).toNat*1=k from by omega,<- a7v]
     refine J.qn 1 λ_=>?_;refine J.s1 4 (a0q (Z.set k ⟨⟨d,false,[d],z.v.ever⟩,some (bb 0),1,z.a2,z.c2⟩)) ?_ ?_ ?_
     ·rw[a0z];omega
     ·rw[show 0+(k:Int).toNat*1=k from by omega,<- a0y];rfl
     exact J.goto [0,1,2,3,4,5,6,7,10] (hj (bb 0)) ⟨rfl,trivial⟩ rfl rfl
    ·skip
     refine J.s1 3 (opC (Z.set k ⟨⟨d,false,z.v.may,z.v.ever⟩,z.a1,z.c1,z.a2,z.c2⟩)) ?_ ?_ ?_
     ·rw[a7w];omega
     ·rw[show 0+(k:Int).toNat*1=k from by omega,<- a7v]
     refine J.qn 1 λbb=>?_;refine J.cO 36 16 1 1 (H3 [d]) 10 ?_;refine J.qn 1 λ_=>?_;refine J.s1 4 (a0q (Z.set k ⟨⟨d,false,[d],z.v.ever⟩,some (bb 0),1,z.a2,z.c2⟩)) ?_ ?_ ?_
     ·rw[a0z];omega
     ·rw[show 0+(k:Int).toNat*1=k from by omega,<- a0y];rfl
     exact J.goto [0,1,2,3,4,5,6,7,10] (hj (bb 0)) ⟨rfl,trivial⟩ rfl rfl
  obtain⟨y,hy⟩:∃y:MSl,y=⟨⟨d,false,[d],z.v.ever⟩,some x,1,z.a2,z.c2⟩:=⟨_,rfl⟩;rw[show a1a (Z.set k ⟨⟨d,z.v.op,z.v.may,z.v.ever⟩,z.a1,z.c1,z.a2,z.c2⟩)=a1a (Z.set k y)from by rw[hy];unfold a1a;rw[T7,T7,A6,A6],show opC (Z.set k ⟨⟨d,false,z.v.may,z.v.ever⟩,z.a1,z.c1,z.a2,z.c2⟩)=opC (Z.set k y)from by rw[hy];unfold opC;rw[A6,A6],<- hy,show Y0 Z=Y0 (Z.set k y)from(a4c (λz=>slv z.a2 z.v.ever.length z.c2) hz (by rw[hy])).symm,show l9 36 16 (some x) 1 1 (H3 [d])=y.m1 from by rw[hy];rfl];refine J.closeAt (A:=y.m1) 6 8 k rfl rfl rfl ?_;rw[<- A6,<- MSl.map_m2 (y:=y) hz (MSl.m2_of (by rw[hy]) (by rw[hy]) (by rw[hy]))];refine J.qr [1,2,3,4,5,6,7] λ_=>?_;exact⟨Z.set k y,by rw[hm],by unfold a3G;rw[A5];rfl,hsv y (by rw[hy];unfold Mv.seen;rw[h2];rfl)⟩
 ·refine J.qr [1,2,3,4,5,6,7] λ_=>?_;exact⟨Z,by rw[hm],rfl,by have:=hsv z (by unfold Mv.seen;rw[h2];rfl);rwa [a1Z hz]at this⟩
namespace Xo
def op (a b:List UInt8×Nat):List UInt8×Nat:=(List.zipWith (· ^^^ ·) a.1 b.1,a.2 ^^^ b.2)
def z:List UInt8×Nat:=(zeros16,0)
def Ok (a:List UInt8×Nat):Prop:=a.1.length=16
def all (l:List (List UInt8×Nat)):List UInt8×Nat:=l.foldl op z
theorem op_ok {a b} (ha:Ok a) (hb:Ok b):Ok (op a b):=by unfold Ok op at*;simp[ha,hb]
theorem z_ok:Ok z:=rfl
theorem op_comm (a b):op a b=op b a:=by
 unfold op;refine Prod.ext ?_ (Nat.xor_comm _ _);apply z8;intro i;simp only[List.getElem?_zipWith];cases a.1[i]? <;>cases b.1[i]? <;>simp[UInt8.xor_comm]
theorem op_assoc (a b c):op (op a b) c=op a (op b c):=by
 unfold op;refine Prod.ext ?_ (Nat.xor_assoc _ _ _);apply z8;intro i;simp only[List.getElem?_zipWith];cases a.1[i]? <;>cases b.1[i]? <;>cases c.1[i]? <;>simp[UInt8.xor_assoc]
theorem z_op {a} (ha:Ok a):op z a=a:=by
 obtain⟨d,n⟩:=a;unfold op z;refine Prod.ext ?_ (Nat.zero_xor n);apply z8;intro i;have hd:d.length=16:=ha;simp only[List.getElem?_zipWith,zeros16,E7]
 by_cases hi:i<16
 ·rw[d7 hi];cases d[i]? <;>simp
 ·rw[d4 hi,j6 (by omega)]
theorem op_self {a} (ha:Ok a):op a a=z:=by
 obtain⟨d,n⟩:=a;unfold op z;refine Prod.ext ?_ (Nat.xor_self n);apply z8;intro i;have hd:d.length=16:=ha;simp only[List.getElem?_zipWith,zeros16,E7]
 by_cases hi:i<16
 ·rw[d7 hi,c9 (by omega)];simp
 ·rw[d4 hi,j6 (by omega)]
theorem fold_ok:∀(l:List (List UInt8×Nat)),(∀x∈l,Ok x)->∀a,Ok a->Ok (l.foldl op a)
 | [],_,_,h=>h
 | x::l,hl,a,h=>fold_ok l (λy hy=>hl y (by simp[hy])) _ (op_ok h (hl x (by simp)))
theorem fold_from:∀(l:List (List UInt8×Nat)),(∀x∈l,Ok x)->∀a,Ok a->l.foldl op a=op a (all l)
 | [],_,a,h=>by unfold all;rw[List.foldl_nil,List.foldl_nil,op_comm,z_op h]
 | x::l,hl,a,h=>by
  have hx:=hl x (by simp);have hl':∀y∈l,Ok y:=λy hy=>hl y (by simp[hy]);unfold all;rw[B3,B3,fold_from l hl' _ (op_ok h hx),z_op hx,fold_from l hl' _ hx,op_assoc]
theorem all_erase:∀(l:List (List UInt8×Nat)) (k:Nat) (x:List UInt8×Nat),(∀x∈l,Ok x)->l[k]? =some x->op (all (l.eraseIdx k)) x=all l
 | [],_,_,_,h=>by simp at h
 | y::l,0,x,hl,h=>by
  simp at h;subst h;have hl':∀z∈l,Ok z:=λz hz=>hl z (by simp[hz]);have hy:=hl y (by simp);rw[List.eraseIdx_cons_zero];show _=(y::l).foldl op z;rw[B3,z_op hy,fold_from l hl' _ hy,op_comm]
 | y::l,k+1,x,hl,h=>by
  have hl':∀z∈l,Ok z:=λz hz=>hl z (by simp[hz]);have hy:=hl y (by simp);have he:∀z∈l.eraseIdx k,Ok z:=λz hz=>hl' z (R8 hz);rw[List.eraseIdx_cons_succ];show op ((y::l.eraseIdx k).foldl op z) x=(y::l).foldl op z;rw[B3,B3,z_op hy,fold_from _ he _ hy,fold_from l hl' _ hy,op_assoc,all_erase l k x hl' (by simpa using h)]
theorem all_back (l:List (List UInt8×Nat)) (k:Nat) (x:List UInt8×Nat) (hl:∀x∈l,Ok x) (h:l[k]? =some x):all (l.eraseIdx k++[all l])=x:=by
 have he:∀z∈l.eraseIdx k,Ok z:=λz hz=>hl z (R8 hz);have hx:=hl x (j9 h);have e:all (l.eraseIdx k++[all l])=op (all (l.eraseIdx k)) (all l):=by unfold all;rw[B8];rfl
 have hok:Ok (all (l.eraseIdx k)):=fold_ok _ he _ z_ok;rw[e,<- all_erase l k x hl h,<- op_assoc,op_self hok,z_op hx]
theorem ovM_nat {a b:Nat} (ha:a<18446744073709551616) (hb:b<18446744073709551616):W.ovM a b=((a ^^^ b:Nat):Int):=by
 unfold W.ovM;have h1:(BitVec.ofInt 64 (a:Int) ^^^ BitVec.ofInt 64 (b:Int)).toNat=a ^^^ b:=by
  rw[BitVec.toNat_xor,a4H,a4H,a5Z,a5Z,K4 ha,K4 hb]
 rw[h1];have h2:a ^^^ b<18446744073709551616:=Z9 (n:=64) ha hb;simp[IntKind.wrap,IntKind.bits,IntKind.signed];omega
def toX (s:Sh):List UInt8×Nat:=(s.data,S.meta_ s.role s.lpn s.seq)
theorem mix_all {x s:List UInt8} (hx:x.length=16) (hs:s.length=16):W.mix x s 16=List.zipWith (· ^^^ ·) x s:=by
 unfold W.mix;rw[x9 (by simp[hx,hs]),H0 (by omega),l8]
theorem over_all:∀(l:List Sh) (a:List UInt8×Nat),(∀s∈l,s.data.length=16)->Ok a->a.2<18446744073709551616->l.foldl W.over1 (a.1,(a.2:Int))=(((l.map toX).foldl op a).1,((((l.map toX).foldl op a).2:Nat):Int))/\((l.map toX).foldl op a).2<18446744073709551616
 | [],a,_,_,h=>⟨rfl,h⟩
 | s::l,a,hl,ha,h=>by
  have hs:=hl s (by simp);have hm:=S.meta_lt s.role s.lpn s.seq;have hlt:a.2 ^^^ S.meta_ s.role s.lpn s.seq<18446744073709551616:=Z9 (n:=64) h hm;have e:W.over1 (a.1,(a.2:Int)) s=((op a (toX s)).1,(((op a (toX s)).2:Nat):Int)):=by
   unfold W.over1;rw[ovM_nat h hm,mix_all ha hs];rfl
  rw[B3,n8,B3,e];exact over_all l (op a (toX s)) (λt ht=>hl t (by simp[ht])) (op_ok ha hs) hlt
end Xo
theorem b7B (l:List Sh) (hl:∀s∈l,s.data.length=16):W.over l=((Xo.all (l.map Xo.toX)).1,((Xo.all (l.map Xo.toX)).2:Int))/\(Xo.all (l.map Xo.toX)).2<18446744073709551616:=
 Xo.over_all l Xo.z hl Xo.z_ok (by decide)
theorem b6Q {b r m:Int} {l:List En} (hd:∀s∈l,s.data.length=16):Xo.toX (W.parS b r m l)=Xo.all ((l.map (W.sh b r m)).map Xo.toX):=by
 obtain⟨h1,h2⟩:=b7B (l.map (W.sh b r m)) (λs hs=>by obtain⟨e,he,rfl⟩:=List.mem_map.1 hs;exact hd e he);have e2:(W.over (l.map (W.sh b r m))).2.toNat=(Xo.all ((l.map (W.sh b r m)).map Xo.toX)).2:=by rw[h1];rfl
 have e1:(W.over (l.map (W.sh b r m))).1=(Xo.all ((l.map (W.sh b r m)).map Xo.toX)).1:=by rw[h1]
 refine Prod.ext e1 ?_;show S.meta_ ((W.over (l.map (W.sh b r m))).2.toNat/72057594037927936:Nat) ((W.over (l.map (W.sh b r m))).2.toNat/1099511627776 % 65536:Nat) ((W.over (l.map (W.sh b r m))).2.toNat % 1099511627776:Nat)=_;rw[e2];generalize(Xo.all ((l.map (W.sh b r m)).map Xo.toX)).2=x at h2;unfold S.meta_;omega
theorem a9Y {α β:Type} (f:α->β):∀(l:List α) (k:Nat),(l.eraseIdx k).map f=(l.map f).eraseIdx k
 | [],_=>rfl
 | _::_,0=>rfl
 | x::l,k+1=>by simp only[List.eraseIdx_cons_succ,n8,a9Y f l k]
theorem b8Z {b r m:Int} {l:List En} (hd:∀s∈l,s.data.length=16) (hB:W.parB b r m l=true) {k:Nat} {e:En} (hk:l[k]? =some e):W.backS (W.parS b r m l) ((l.map (W.sh b r m)).eraseIdx k)=e:=by
 have hdm:∀s∈l.map (W.sh b r m),s.data.length=16:=λs hs=>by obtain⟨e,he,rfl⟩:=List.mem_map.1 hs;exact hd e he
 have hde:∀s∈(l.map (W.sh b r m)).eraseIdx k++[W.parS b r m l],s.data.length=16:=λs hs=>by
  rw[M4,J3]at hs;rcases hs with hs | rfl
  ·exact hdm s (R8 hs)
  ·exact b2g hd
 obtain⟨h1,h2⟩:=b7B _ hde;have hx:Xo.all (((l.map (W.sh b r m)).eraseIdx k++[W.parS b r m l]).map Xo.toX)=Xo.toX (W.sh b r m e):=by
  rw[s8,n8,S8,b6Q hd,a9Y];exact Xo.all_back _ k _ (λx hx=>by obtain⟨s,hs,rfl⟩:=List.mem_map.1 hx;exact hdm s hs) (by rw[i5,i5,hk];rfl)
 rw[hx]at h1;have hok:=(a2a hB).2.2.2 e (j9 hk);have hmay:S.may (W.sh b r m e)=true:=hok;have hb:=hmay;simp only[S.may,S.numbers,S.inB,f8,d6]at hb;obtain⟨m1,m2,m3⟩:=S.meta_back e.role e.lpn e.seq hb.1.2.2 hb.1.2.1.2 hb.1.2.1.1;unfold W.backS;simp only[h1];obtain⟨el,es,er,ed⟩:=e;exact(En.mk.injEq ..).mpr ⟨m2,m3,m1,rfl⟩
theorem b6t {b r m:Int} {l:List En} (hd:∀s∈l,s.data.length=16) (hB:W.parB b r m l=true) {k:Nat} {e:En} (hk:l[k]? =some e):W.backB (W.parS b r m l) ((l.map (W.sh b r m)).eraseIdx k)=true/\W.back (W.parS b r m l) ((l.map (W.sh b r m)).eraseIdx k)=e:=by
 obtain⟨p1,p2,p3,p4⟩:=a2a hB;have hb:=b8Z hd hB hk;have hkl:k<l.length:=(List.getElem?_eq_some_iff.1 hk).1;have hany:((l.map (W.sh b r m)).eraseIdx k).any (W.alien (W.parS b r m l))=false:=by
  rw[X1];intro s hs;obtain⟨x,hx,rfl⟩:=List.mem_map.1 (R8 hs);have hmay:S.may (W.sh b r m x)=true:=p4 x hx;unfold W.alien;rw[hmay];simp[W.sh,W.parS]
 have hlen:decide ((((l.map (W.sh b r m)).eraseIdx k).length:Int)=G.slots (W.parS b r m l).mask-1)=true:=by
  refine i7 ?_;rw[List.length_eraseIdx,d7 (by rw[j5];exact hkl),j5];show((l.length-1:Nat):Int)=G.slots m-1;omega
 have h1:W.backB (W.parS b r m l) ((l.map (W.sh b r m)).eraseIdx k)=true:=by
  unfold W.backB;rw[b2f hB,hany,hlen,hb];show(((2:Int)==2&&true&& !false&&true)&&W.ok b r m e)=true;rw[p4 e (j9 hk)];rfl
 refine⟨h1,?_⟩;unfold W.back;rw[d7 h1,hb]
end
section
open Go
def a4s (c:NCell):Prop:=c.lost=true\/c.turned=true/\S.getE c.p≠0
def a1H (s:Sh) (c:NCell):Prop:=a4s c\/c.p=P7 s\/c.turned=true/\((∃n y,n<32/\y≠0/\c.p=Nand.xorAt (P7 s) n y)\/∃K,K<=32/\c.p=Nand.fillP K (P7 s))
structure ShAt (s:Sh) (d b r:Int):Prop where
 len:s.data.length=16
 may:S.may s=true
 blk:s.block=b
 row:s.row=r
 has:L.has s.mask d=true
 par:(G.parity s.mask b r==d)=(s.kind==2)
theorem b4G {N:Nand} {d b r:Int} (h:N.readE d b r≠0):(M.look N d b r).2≠1:=by
 unfold M.look;simp only;rw[d4 h];split
 ·decide
 ·split<;>decide
theorem a4N {N:Nand} {d b r:Int} (h:N.refuses d b r≠0):(M.look N d b r).2≠1:=by
 refine b4G ?_;unfold Nand.readE;rw[d7 h];exact h
theorem a2e {N:Nand} {d b r:Int} (h:N.pageAt d b r=none):(M.look N d b r).2≠1:=by
 refine b4G ?_;unfold Nand.readE;split
 ·assumption
 ·rw[h];decide
theorem b4E {N:Nand} {d b r:Int} {s:Sh} (hs:ShAt s d b r) {t:Bool} (hr:N.refuses d b r=0) (hc:N.pageAt d b r=some ⟨P7 s,false,t⟩):M.look N d b r=(s,1):=by
 have hput:P7 s=S.put s:=by unfold P7;rw[d7 hs.may]
 obtain⟨g1,g2⟩:=S.getV_put s hs.len hs.may;have e1:N.readE d b r=0:=by unfold Nand.readE;rw[d4 (by simp[hr]),hc];rfl
 have e2:N.readV d b r=S.put s:=by unfold Nand.readV;rw[d4 (by simp[hr]),hc];simpa using hput
 unfold M.look;simp only;rw[d7 e1,e2,g1,g2,d4];simp only[M.bad,hs.blk,hs.row,hs.has,hs.par];simp
theorem a6p {s:Sh} {d b r:Int} (hs:ShAt s d b r):S.getE (P7 s)=0:=by
 have hput:P7 s=S.put s:=by unfold P7;rw[d7 hs.may]
 rw[hput];exact(S.getV_put s hs.len hs.may).2
theorem b2q {N:Nand} {d b r:Int} {c:NCell} (hc:N.pageAt d b r=some c) (hB:a4s c):(M.look N d b r).2≠1:=by
 by_cases hr:N.refuses d b r=0
 ·by_cases hl:c.lost=true
  ·refine b4G ?_;unfold Nand.readE;rw[d4 (by simp[hr]),hc];simp[hl]
  ·have hl:c.lost=false:=by simpa using hl
   rcases hB with h | ⟨_,h⟩
   ·rw[hl]at h;cases h
   ·have e1:N.readE d b r=0:=by unfold Nand.readE;rw[d4 (by simp[hr]),hc];simp[hl]
    have e2:N.readV d b r=c.p:=by unfold Nand.readV;rw[d4 (by simp[hr]),hc];simp[hl]
    unfold M.look;simp only;rw[d7 e1,e2,d7 (.inl h)];decide
 ·exact a4N hr
theorem a2Y {N:Nand} {d b r:Int} {s:Sh} (hs:ShAt s d b r) {c:NCell} (hc:N.pageAt d b r=some c) (hC:a1H s c) (h1:(M.look N d b r).2=1):M.look N d b r=(s,1):=by
 by_cases hr:N.refuses d b r=0
 ·have hput:P7 s=S.put s:=by unfold P7;rw[d7 hs.may]
  by_cases hl:c.lost=true
  ·refine absurd h1 (b4G ?_);unfold Nand.readE;rw[d4 (by simp[hr]),hc];simp[hl]
  ·have hl:c.lost=false:=by simpa using hl
   rcases hC with h | h | ⟨_,⟨n,y,hn,hy,h⟩ | ⟨K,hK,h⟩⟩
   ·rcases h with h | ⟨_,h⟩
    ·rw[hl]at h;cases h
    ·refine absurd h1 ?_;have e1:N.readE d b r=0:=by unfold Nand.readE;rw[d4 (by simp[hr]),hc];simp[hl]
     have e2:N.readV d b r=c.p:=by unfold Nand.readV;rw[d4 (by simp[hr]),hc];simp[hl]
     unfold M.look;simp only;rw[d7 e1,e2,d7 (.inl h)];decide
   ·refine b4E (t:=c.turned) hs hr ?_;rw[hc];cases c;simp only at h hl;rw[h,hl]
   ·refine absurd h1 ?_;have e1:N.readE d b r=0:=by unfold Nand.readE;rw[d4 (by simp[hr]),hc];simp[hl]
    have e2:N.readV d b r=(S.put s).set n ((S.put s).getD n 0 ^^^ y):=by unfold Nand.readV;rw[d4 (by simp[hr]),hc];simp[hl,h,hput,Nand.xorAt]
    have hg:=S.turned_none s hs.len n hn ((S.put s).getD n 0 ^^^ y) (λe=>hy (by
     have e2:=congrArg (λz=>(S.put s).getD n 0 ^^^ z) e;simp only[<- UInt8.xor_assoc,UInt8.xor_self,UInt8.zero_xor]at e2;exact e2))
    unfold M.look;simp only;rw[d7 e1,e2,d7]
    ·decide
    ·refine .inl ?_;unfold S.getE;rw[hg];decide
   ·have hpl:(S.put s).length=32:=S.length_put s hs.len;have e1:N.readE d b r=0:=by unfold Nand.readE;rw[d4 (by simp[hr]),hc];simp[hl]
    have e2:N.readV d b r=Nand.fillP K (S.put s):=by unfold Nand.readV;rw[d4 (by simp[hr]),hc];simp[hl,h,hput]
    unfold M.look at h1 ⊢;simp only at h1 ⊢;rw[d7 e1,e2]at h1 ⊢;split at h1
    ·cases h1
    ·rename_i hcond;rw[d4 hcond];have hE:S.getE (Nand.fillP K (S.put s))=0:=by
      by_cases h:S.getE (Nand.fillP K (S.put s))=0
      ·exact h
      ·exact absurd (.inl h) hcond
     have hsome:(S.get (Nand.fillP K (S.put s))).isSome=true:=by
      unfold S.getE at hE;split at hE
      ·assumption
      ·cases hE
     unfold S.get at hsome;split at hsome
     ·rename_i hmay;have hk28:28<=K:=by
       by_cases h:28<=K
       ·exact h
       ·have h1:=a9D K (S.put s) hpl (by omega);have h2:=S.may_bounds _ hmay.1;omega
      have:S.getV (Nand.fillP K (S.put s))=s:=by
       unfold S.getV S.get;rw[d7 hmay,a6C K _ hpl hk28 hK,S.fields_put s hs.len hs.may];rfl
      rw[this]
     ·cases hsome
 ·exact absurd h1 (a4N hr)
theorem a4d {N:Nand} {d b r:Int} {s:Sh} (hs:ShAt s d b r) (hr:N.refuses d b r=0) {c:NCell} (hc:N.pageAt d b r=some c) (hC:a1H s c) (hl:c.lost=false) (hE:S.getE c.p=0):M.look N d b r=(s,1):=by
 refine a2Y hs hc hC ?_;have hput:P7 s=S.put s:=by unfold P7;rw[d7 hs.may]
 have e1:N.readE d b r=0:=by unfold Nand.readE;rw[d4 (by simp[hr]),hc];simp[hl]
 have e2:N.readV d b r=c.p:=by unfold Nand.readV;rw[d4 (by simp[hr]),hc];simp[hl]
 rcases hC with h | h | ⟨_,⟨n,y,hn,hy,h⟩ | ⟨K,hK,h⟩⟩
 ·rcases h with h | ⟨_,h⟩
  ·rw[hl]at h;cases h
  ·exact absurd hE h
 ·rw[b4E (t:=c.turned) hs hr (by rw[hc];cases c;simp only at h hl;rw[h,hl])]
 ·exfalso
  have hg:=S.turned_none s hs.len n hn ((S.put s).getD n 0 ^^^ y) (λe=>hy (by
   have e2:=congrArg (λz=>(S.put s).getD n 0 ^^^ z) e;simp only[<- UInt8.xor_assoc,UInt8.xor_self,UInt8.zero_xor]at e2;exact e2))
  rw[h,hput]at hE;unfold S.getE at hE;unfold Nand.xorAt at hE;rw[hg]at hE
  revert hE
  decide
 ·have hpl:(S.put s).length=32:=S.length_put s hs.len;rw[h,hput]at hE;rw[h,hput]at e2;have hsome:(S.get (Nand.fillP K (S.put s))).isSome=true:=by
   unfold S.getE at hE;split at hE
   ·assumption
   ·cases hE
  have hV:S.getV (Nand.fillP K (S.put s))=s:=by
   unfold S.get at hsome;split at hsome
   ·rename_i hmay;have hk28:28<=K:=by
     by_cases h:28<=K
     ·exact h
     ·have h1:=a9D K (S.put s) hpl (by omega);have h2:=S.may_bounds _ hmay.1;omega
    unfold S.getV S.get;rw[d7 hmay,a6C K _ hpl hk28 hK,S.fields_put s hs.len hs.may];rfl
   ·cases hsome
  unfold M.look;simp only;rw[d7 e1,e2,hE,hV,d4];simp only[M.bad,hs.blk,hs.row,hs.has,hs.par];simp
structure RowIs (N:Nand) (b r m:Int) (l:List En):Prop where
 six:N.dies<=6
 blk:0<=b/\b<N.blocks
 row:0<=r/\r<N.pages
 mask:0<=m/\m<2^N.dies
 data:∀s∈l,s.data.length=16
 par:W.parB b r m l=true
namespace RowIs
variable {N : Nand} {b r m : Int} {l : List En}
theorem like {N':Nand} (h:RowIs N b r m l) (k:N.Like N'):RowIs N' b r m l:=⟨by rw[k.dies];exact h.six,by rw[k.blocks];exact h.blk,by rw[k.pages];exact h.row,by rw[k.dies];exact h.mask,h.data,h.par⟩
theorem m64 (h:RowIs N b r m l):m<64:=by
 have:(2:Int)^N.dies<=2^6:=by exact_mod_cast a0m (n:=2) (by omega) h.six
 have:=h.mask;omega
theorem len (h:RowIs N b r m l):(l.length:Int)=G.slots m:=(a2a h.par).1
theorem count (h:RowIs N b r m l):2<=L.count m:=by
 have:=a2a h.par;unfold G.slots at this;split at this<;>omega
theorem facts (h:RowIs N b r m l):DieFacts m b r:=b8P m b r h.mask.1 h.m64 h.count h.blk.1 h.row.1
theorem nodup (h:RowIs N b r m l):((R.job b r m l).map (·.1)).Nodup:=b5T h.facts h.len
theorem inn (h:RowIs N b r m l):∀x∈R.job b r m l,0<=x.1/\x.1<(N.dies:Int)/\L.has m x.1=true:=by
 have hl:=h.len;intro x hx;rcases mem_job.1 hx with⟨k,hk,rfl⟩ | rfl
 ·have hf:=h.facts.die k (by omega);obtain⟨d,hd⟩:=f9 hf.2.2.1;dsimp only at hf ⊢;rw[hd]at hf ⊢;have:=a4Z h.mask.2 hf.1;exact⟨by omega,by omega,hf.1⟩
 ·have hf:=h.facts.par;obtain⟨d,hd⟩:=f9 hf.2.1;dsimp only;rw[hd]at hf ⊢;have:=a4Z h.mask.2 hf.1;exact⟨by omega,by omega,hf.1⟩
theorem sh (h:RowIs N b r m l):∀x∈R.job b r m l,ShAt x.2 x.1 b r/\x.2.mask=m:=by
 obtain⟨p1,p2,p3,p4⟩:=a2a h.par;intro x hx;rcases mem_job.1 hx with⟨k,hk,rfl⟩ | rfl
 ·have hmem:l.getD k En.zero∈l:=by rw[d5,c9 hk];exact I2 _
  have hf:=h.facts.die k (by omega);refine⟨⟨h.data _ hmem,p4 _ hmem,rfl,rfl,hf.1,?_⟩,rfl⟩;have:(G.parity m b r==G.die m b r (k:Nat))=false:=by rw[m6];exactλe=>hf.2.1 e.symm
  show(G.parity m b r==G.die m b r (k:Nat))=_;rw[this];rfl
 ·refine⟨⟨b2g h.data,b2f h.par,rfl,rfl,h.facts.par.1,?_⟩,rfl⟩;show(G.parity m b r==G.parity m b r)=_;rw[beq_self_eq_true];rfl
theorem on (h:RowIs N b r m l) {d:Nat} (hd:L.has m (d:Nat)=true):∃x∈R.job b r m l,x.1=(d:Nat):=by
 have hlt:=a4Z h.mask.2 hd;have:=h.six;rcases h.facts.all d (by omega) hd with e | ⟨k,hk,e⟩
 ·exact⟨_,mem_job.2 (.inr rfl),e.symm⟩
 ·have:=h.len;exact⟨_,mem_job.2 (.inl ⟨k,by omega,rfl⟩),e⟩
end RowIs
structure PartR (N:Nand) (b r m:Int) (l:List En) (g:Nat->Bool):Prop where
 good:∀k x,(R.job b r m l)[k]? =some x->g k=true->M.look N x.1 b r=(x.2,1)
 bad:∀k x,(R.job b r m l)[k]? =some x->g k=false->(M.look N x.1 b r).2≠1
def b0Y (g:Nat->Bool) (n k:Nat):Bool:=(List.range (n+1)).all λi=>i==k||g i
def okG (g:Nat->Bool) (n k:Nat):Bool:=g k||b0Y g n k
def b9O (b r m:Int) (l:List En) (g:Nat->Bool):List Fnd:=(List.range l.length).filterMap λk=>if okG g l.length k&&(l.getD k En.zero).role !=3 then some ⟨l.getD k En.zero,b,r,k,m,g l.length,!(g k)⟩else none
namespace PartR
variable {N : Nand} {b r m : Int} {l : List En} {g : Nat → Bool}
theorem one2 (h:PartR N b r m l g) (hm:∀x∈R.job b r m l,x.2.mask=m) {k:Nat} {x:Int×Sh} (hk:(R.job b r m l)[k]? =some x):(R.one N b r m x.1).2=g k/\(g k=true->(R.one N b r m x.1).1=x.2):=by
 unfold R.one;cases hg:g k with
 | true=>
  rw[h.good k x hk hg];refine⟨?_,λ_=>rfl⟩;show((1:Int)==1&&x.2.mask==m)=true;rw[hm x (j9 hk)];simp
 | false=>
  refine⟨?_,λh=>by cases h⟩;have:=h.bad k x hk hg;show((M.look N x.1 b r).2==1&&_)=false;rw[beq_eq_false_iff_ne.2 this];rfl
theorem fd (h:PartR N b r m l g) (hm:∀x∈R.job b r m l,x.2.mask=m) (hl:(l.length:Int)=G.slots m):
  (∀k,k<l.length->(R.look N b r m).good.getD k false=g k/\(g k=true->(R.look N b r m).slots.getD k Sh.zero=W.sh b r m (l.getD k En.zero)))/\
  (R.look N b r m).slots.length=l.length/\(R.look N b r m).whole=g l.length/\(g l.length=true->(R.look N b r m).parity=W.parS b r m l):=by
 have hs:(G.slots m).toNat=l.length:=by omega
 obtain⟨w1,w2⟩:=h.one2 hm (Z7 b r m l);refine⟨λk hk=>?_,by rw[(a0i N b r m).1,hs],w1,w2⟩;obtain⟨o1,o2⟩:=h.one2 hm (a3u b r m l k hk);constructor
 ·unfold R.look R.ones;simp only[hs,d5,i5,M2 hk,C9,j4];exact o1
 ·intro hg;have:=o2 hg;unfold R.look R.ones;simp only[hs,d5,i5,M2 hk,C9,j4]at this ⊢;exact this
theorem mend (h:PartR N b r m l g) (hR:RowIs N b r m l) {j:Nat} (hj:j<l.length):
  R.mendB (R.look N b r m) j=b0Y g l.length j/\(b0Y g l.length j=true->R.mend (R.look N b r m) j=l.getD j En.zero):=by
 have hm:∀x∈R.job b r m l,x.2.mask=m:=λx hx=>(hR.sh x hx).2;obtain⟨f1,f2,f3,f4⟩:=h.fd hm hR.len;have hrest:R.rest (R.look N b r m) j=(List.range l.length).all λi=>i==j||g i:=by
  unfold R.rest;rw[f2];rw[a2v,E8,E8];constructor
  ·intro hh i hi;have:=hh i hi
   rwa [(f1 i (List.mem_range.1 hi)).1]at this
  ·intro hh i hi;have:=hh i hi
   rwa [(f1 i (List.mem_range.1 hi)).1]
 have hoth:b0Y g l.length j=((List.range l.length).all (λi=>i==j||g i)&&g l.length):=by
  unfold b0Y;rw[t6,List.all_append];have:(l.length==j)=false:=by rw[m6];omega
  simp[this]
 cases hO:b0Y g l.length j with
 | false=>
  refine⟨?_,λe=>by cases e⟩;unfold R.mendB;rw[hrest,f3,<- hoth,hO];rfl
 | true=>
  rw[hoth,f8]at hO;have hpar:=f4 hO.2;have hall:=List.all_eq_true.1 hO.1;have her:(R.look N b r m).slots.eraseIdx j=(l.map (W.sh b r m)).eraseIdx j:=by
   apply z8;intro i;rw[List.getElem?_eraseIdx,List.getElem?_eraseIdx];have key:∀i,i≠j->(R.look N b r m).slots[i]? =(l.map (W.sh b r m))[i]?:=λi hij=>by
    rcases L8 i l.length with hi | hi
    ·have hgi:g i=true:=by have:=hall i (List.mem_range.2 hi);simpa[hij]using this
     have:=(f1 i hi).2 hgi;rw[d5,c9 (by omega),j4]at this;rw[c9 (by omega),this,i5,d5,c9 hi];rfl
    ·rw[j6 (by omega),j6 (by rw[j5];omega)]
   split
   ·exact key i (by omega)
   ·exact key (i+1) (by omega)
  have he:l[j]? =some (l.getD j En.zero):=by rw[d5,c9 hj,j4]
  obtain⟨b1,b2⟩:=b6t hR.data hR.par he;unfold R.mendB R.mend;rw[hrest,hO.1,f3,hO.2,hpar,her,b1,b2];exact⟨rfl,λ_=>rfl⟩
theorem read (h:PartR N b r m l g) (hR:RowIs N b r m l) (hoff:N.off=false) {i:Nat} (hi:i<l.length):
  R.read N b r (i:Nat) m=if okG g l.length i then(l.getD i En.zero,0)else(En.zero,10):=by
 have hm:∀x∈R.job b r m l,x.2.mask=m:=λx hx=>(hR.sh x hx).2;have hl:=hR.len;obtain⟨f1,f2,f3,f4⟩:=h.fd hm hR.len;obtain⟨m1,m2⟩:=h.mend hR hi;have hf:=hR.facts.die i (by omega);have hg:X4 N.dies N.blocks N.pages 0 b r=true:=by
  have hd:=hR.inn _ (Z7 b r m l |>j9);exact Nand.geoIn_of ⟨by omega,by omega⟩ hR.blk hR.row
 unfold R.read;rw[d4 (by rw[hg];simp;omega),hoff,d4 (by decide),i9,(f1 i hi).1,m1];unfold okG;cases hgi:g i with
 | true=>
  rw[d7 rfl,(f1 i hi).2 hgi];rfl
 | false=>
  rw[d4 (by decide),D6];cases ho:b0Y g l.length i with
  | true=>rw[d7 rfl,d7 rfl,m2 ho]
  | false=>rw[d4 (by decide),d4 (by decide)]
theorem fnd (h:PartR N b r m l g) (hR:RowIs N b r m l) {k:Nat} (hk:k<l.length):
  R.fnd (R.look N b r m) b r m k=if okG g l.length k&&(l.getD k En.zero).role !=3 then some ⟨l.getD k En.zero,b,r,k,m,g l.length,!(g k)⟩else none:=by
 have hm:∀x∈R.job b r m l,x.2.mask=m:=λx hx=>(hR.sh x hx).2;obtain⟨f1,f2,f3,f4⟩:=h.fd hm hR.len;obtain⟨m1,m2⟩:=h.mend hR hk;unfold R.fnd R.okAt R.enAt;rw[(f1 k hk).1,f3,m1];unfold okG;cases hgi:g k with
 | true=>
  rw[(f1 k hk).2 hgi];rfl
 | false=>
  simp only[D6,H6,X6];cases ho:b0Y g l.length k with
  | true=>rw[m2 ho]
  | false=>rfl
theorem allM (h:PartR N b r m l g) (hR:RowIs N b r m l):R.allM N b r m=b9O b r m l g:=by
 have hl:=hR.len;unfold R.allM b9O;rw[(a0i N b r m).1,show(G.slots m).toNat=l.length from by omega];exact a4k λk hk=>h.fnd hR (List.mem_range.1 hk)
end PartR
def gOf (N:Nand) (b r m:Int) (l:List En) (k:Nat):Bool:=match(R.job b r m l)[k]? with
 | some x=>(M.look N x.1 b r).2==1
 | none=>false
def RowIn (N:Nand) (b r m:Int) (l:List En):Prop:=∀x∈R.job b r m l,∀c,N.pageAt x.1 b r=some c->a1H x.2 c
theorem RowIn.part {N:Nand} {b r m:Int} {l:List En} (h:RowIn N b r m l) (hR:RowIs N b r m l):PartR N b r m l (gOf N b r m l):=by
 refine⟨λk x hk hg=>?_,λk x hk hg=>?_⟩
 ·unfold gOf at hg;rw[hk]at hg;have hx:=j9 hk;have h1:(M.look N x.1 b r).2=1:=by simpa using hg
  cases hp:N.pageAt x.1 b r with
  | none=>exact absurd h1 (a2e hp)
  | some c=>exact a2Y (hR.sh x hx).1 hp (h x hx c hp) h1
 ·unfold gOf at hg;rw[hk]at hg;simpa using hg
namespace Nand
def failB (N:Nand) (b r d:Int):Bool:=N.dead.getD d.toNat false||N.fails d b r
variable {N : Nand}
theorem Lit.refuses (h:N.Lit) {x y z:Int} (hx:0<=x/\x<N.dies) (hy:0<=y/\y<N.blocks) (hz:0<=z/\z<N.pages):N.refuses x y z=if N.dead.getD x.toNat false then 8 else 0:=by
 unfold Nand.refuses;rw[h.off,d4 (by decide),geoIn_of hx hy hz,d4 (by decide)]
end Nand
structure RdyR (N:Nand) (b r:Int) (q:List (Int×Sh)):Prop where
 lit:N.Lit
 nodup:(q.map (·.1)).Nodup
 inn:∀x∈q,0<=x.1/\x.1<N.dies
 blk:0<=b/\b<N.blocks
 row:0<=r/\r<N.pages
 cells:∀x∈q,N.dead.getD x.1.toNat false=false->((N.blk x.1.toNat b.toNat).cells.length:Int)=r
structure WroteR (N N':Nand) (b r:Int) (q:List (Int×Sh)):Prop where
 lit:N'.Lit
 like:N.Like N'
 dead:N'.dead=N.dead
 broken:N'.broken=N.broken
 cells:∀x∈q,(N'.blk x.1.toNat b.toNat).cells=if N.dead.getD x.1.toNat false then(N.blk x.1.toNat b.toNat).cells else(N.blk x.1.toNat b.toNat).cells++[⟨P7 x.2,N.fails x.1 b r,false⟩]
 rest:∀i j,(j≠b.toNat\/∀x∈q,x.1.toNat≠i)->N'.blk i j=N.blk i j
 flags:∀i j,(N'.blk i j).met=(N.blk i j).met/\(N'.blk i j).fails=(N.blk i j).fails/\(N'.blk i j).worn=(N.blk i j).worn
 plan:∀a∈N'.plan,a∈N.plan
 ops:N'.ops=N.ops+((q.filter λx=>!N.dead.getD x.1.toNat false).length:Int)
def a0B (N:Nand) (b r:Int):List (Int×Sh)->Int->Int
 | [],f=>f
 | x::q,f=>a0B N b r q (if N.failB b r x.1 then L.with_ f x.1 else f)
theorem a8L {N N':Nand} {b r:Int}:∀(q:List (Int×Sh)) (f:Int),(∀x∈q,N'.failB b r x.1=N.failB b r x.1)->a0B N' b r q f=a0B N b r q f
 | [],f,_=>rfl
 | x::q,f,h=>by rw[a0B,a0B,h x (by simp),a8L q _ λy hy=>h y (by simp[hy])]
theorem c2a (b r:Int):∀(q:List (Int×Sh)) (N:Nand) (f:Int),RdyR N b r q->(R.go b r q N f).2.1=a0B N b r q f/\(R.go b r q N f).2.2=(if a0B N b r q f=0 then 0 else 7)/\WroteR N (R.go b r q N f).1 b r q
 | [],N,f,h=>⟨rfl,rfl,h.lit,Nand.Like.refl N,rfl,rfl,by simp,λ_ _ _=>rfl,λ_ _=>⟨rfl,rfl,rfl⟩,λ_ h=>h,by simp[R.go]⟩
 | (d,s)::q,N,f,h=>by
  have hx:=h.inn (d,s) (by simp);have hc:=h.cells (d,s) (by simp);dsimp only at hx hc;have hr:=h.lit.refuses hx h.blk h.row;have hnd:=List.nodup_cons.1 h.nodup;have hne:∀x∈q,x.1≠d:=λx hxq e=>hnd.1 (List.mem_map.2 ⟨x,hxq,e⟩);have hne2:∀x∈q,x.1.toNat≠d.toNat:=λx hxq e=>by
   have:=h.inn x (by simp[hxq]);exact hne x hxq (by omega)
  by_cases hdd:N.dead.getD d.toNat false=true
  ·rw[hdd,d7 rfl]at hr;have e1:N.progE d b r=8:=by unfold Nand.progE;rw[d7 (by rw[hr];decide),hr]
   have e2:N.progN d b r (P7 s)=N:=by unfold Nand.progN;rw[d7 (by rw[hr];decide)]
   have ef:N.failB b r d=true:=by unfold Nand.failB;rw[hdd];rfl
   have eg:R.go b r ((d,s)::q) N f=R.go b r q N (L.with_ f d):=by rw[R.go,d4 (by rw[e1];decide),d4 (by rw[e1];decide),e2]
   obtain⟨g1,g2,g3⟩:=c2a b r q N (L.with_ f d) ⟨h.lit,hnd.2,λx hxq=>h.inn x (by simp[hxq]),h.blk,h.row,λx hxq=>h.cells x (by simp[hxq])⟩;have em:a0B N b r ((d,s)::q) f=a0B N b r q (L.with_ f d):=by rw[a0B];dsimp only;rw[ef,d7 rfl]
   rw[eg,em];refine⟨g1,g2,g3.lit,g3.like,g3.dead,g3.broken,λx hxq=>?_,λi j hij=>g3.rest i j (hij.imp id λh' x hxq=>h' x (by simp[hxq])),g3.flags,g3.plan,?_⟩
   ·rcases List.mem_cons.1 hxq with rfl | hxq
    ·dsimp only;rw[g3.rest _ _ (.inr λy hy=>hne2 y hy),hdd,d7 rfl]
    ·exact g3.cells x hxq
   ·rw[g3.ops,Z6,d4 (by dsimp only;rw[hdd];decide)]
  ·have hdd:N.dead.getD d.toNat false=false:=by simpa using hdd
   have hc:=hc hdd;rw[hdd,d4 (by decide)]at hr;have e1:=a5w hr hc.symm h.lit.cutB;have e2:=a5v (pg:=P7 s) hr hc.symm h.lit.cutB;have ef:N.failB b r d=N.fails d b r:=by unfold Nand.failB;rw[hdd];rfl
   obtain⟨N1,hN1⟩:∃N1,N.progN d b r (P7 s)=N1:=⟨_,rfl⟩;rw[hN1]at e2;have hb:∀i j,N1.blk i j=if i=d.toNat/\j=b.toNat then {N.blk d.toNat b.toNat with cells:=(N.blk d.toNat b.toNat).cells++[⟨P7 s,N.fails d b r,false⟩]}else N.blk i j:=λi j=>by rw[e2];rfl
   have hlike:N.Like N1:=by rw[e2];exact⟨rfl,rfl,rfl⟩
   have hlit:N1.Lit:=by rw[<- hN1];exact h.lit.prog _ _ _ _
   have hbr:N1.broken=N.broken:=by rw[e2];rfl
   have hdead:N1.dead=N.dead:=by rw[e2];rfl
   have hops:N1.ops=N.ops+1:=by rw[e2];rfl
   have hplan:N1.plan=N.plan.erase (d,b,r):=by rw[e2];rfl
   have hq:∀x∈q,N1.blk x.1.toNat b.toNat=N.blk x.1.toNat b.toNat:=λx hxq=>by rw[hb,d4 (by have:=hne2 x hxq;omega)]
   have hfl:∀x∈q,N1.fails x.1 b r=N.fails x.1 b r:=λx hxq=>by
    unfold Nand.fails;rw[hq x hxq,hplan];congr 1;rw[a1J];exact List.mem_erase_of_ne (λe=>hne x hxq (by injection e))
   have hfb:∀x∈q,N1.failB b r x.1=N.failB b r x.1:=λx hxq=>by unfold Nand.failB;rw[hdead,hfl x hxq]
   obtain⟨f1,hf1⟩:∃f1,(if N.fails d b r then L.with_ f d else f)=f1:=⟨_,rfl⟩;have eg:R.go b r ((d,s)::q) N f=R.go b r q N1 f1:=by
    rw[R.go,e1,hN1,<- hf1];cases N.fails d b r with
    | true=>rw[d7 rfl,d4 (by decide),d4 (by decide),d7 rfl]
    | false=>rw[d4 l4,d7 rfl,d4 l4]
   have em:a0B N b r ((d,s)::q) f=a0B N b r q f1:=by rw[a0B];dsimp only;rw[ef,hf1]
   obtain⟨g1,g2,g3⟩:=c2a b r q N1 f1 ⟨hlit,hnd.2,λx hxq=>by rw[hlike.dies];exact h.inn x (by simp[hxq]),by rw[hlike.blocks];exact h.blk,by rw[hlike.pages];exact h.row,λx hxq hd=>by rw[hq x hxq];exact h.cells x (by simp[hxq]) (by rw[<- hdead];exact hd)⟩;rw[a8L q f1 hfb]at g1 g2;rw[eg,em];refine⟨g1,g2,g3.lit,hlike.trans g3.like,g3.dead.trans hdead,g3.broken.trans hbr,λx hxq=>?_,λi j hij=>?_,λi j=>?_,λa ha=>?_,?_⟩
   ·rcases List.mem_cons.1 hxq with rfl | hxq
    ·dsimp only;rw[g3.rest _ _ (.inr λy hy=>hne2 y hy),hb,d7 ⟨rfl,rfl⟩,hdd,d4 (by decide)]
    ·rw[g3.cells x hxq,hdead,hq x hxq,hfl x hxq]
   ·rw[g3.rest i j (hij.imp id λh' x hxq=>h' x (by simp[hxq])),hb,d4];rintro⟨rfl,rfl⟩;rcases hij with h' | h'
    ·exact h' rfl
    ·exact h' (d,s) (by simp) rfl
   ·have:=g3.flags i j;rw[this.1,this.2.1,this.2.2,hb];split
    ·rename_i h';rw[h'.1,h'.2];exact⟨rfl,rfl,rfl⟩
    ·exact⟨rfl,rfl,rfl⟩
   ·have:=g3.plan a ha;rw[hplan]at this;exact List.mem_of_mem_erase this
   ·rw[g3.ops,hops,hdead,Z6,d7 (by dsimp only;rw[hdd];decide),l6];omega
structure RdyW (N:Nand) (b r m:Int):Prop where
 lit:N.Lit
 cells:∀d:Nat,L.has m (d:Nat)=true->N.dead.getD d false=false->((N.blk d b.toNat).cells.length:Int)=r
theorem RdyW.rdy {N:Nand} {b r m:Int} {l:List En} (h:RdyW N b r m) (hR:RowIs N b r m l):RdyR N b r (R.job b r m l):=by
 refine⟨h.lit,hR.nodup,λx hx=>⟨(hR.inn x hx).1,(hR.inn x hx).2.1⟩,hR.blk,hR.row,λx hx hd=>?_⟩;obtain⟨h1,h2,h3⟩:=hR.inn x hx;refine h.cells x.1.toNat ?_ hd
 rwa [show((x.1.toNat:Nat):Int)=x.1 from by omega]
theorem a4t {N:Nand} {b r m:Int} {l:List En} (h:RdyW N b r m) (hR:RowIs N b r m l):(R.write N b r m l).2.1=a0B N b r (R.job b r m l) 0/\(R.write N b r m l).2.2=(if a0B N b r (R.job b r m l) 0=0 then 0 else 7)/\WroteR N (R.write N b r m l).1 b r (R.job b r m l):=by
 unfold R.write;rw[d7 hR.par];exact c2a b r _ N 0 (h.rdy hR)
end
section
namespace L
theorem with_dec:∀f,f<256->∀d,d<8->set (with_ (f:Nat) (d:Nat))=true/\∀e,e<8->has (with_ (f:Nat) (d:Nat)) (e:Nat)=(has (f:Nat) (e:Nat)||decide (e=d)):=by decide+kernel
theorem without_dec:∀f,f<256->∀d,d<8->set (without (f:Nat) (d:Nat))=true/\∀e,e<8->has (without (f:Nat) (d:Nat)) (e:Nat)=(has (f:Nat) (e:Nat)&& !decide (e=d)):=by decide+kernel
theorem all_dec:∀n,n<=8->set (all (n:Nat))=true/\∀e,e<8->has (all (n:Nat)) (e:Nat)=decide (e<n):=by decide+kernel
theorem set_has {m:Int} (h:set m=true):∃k:Nat,m=k/\k<256:=by
 rw[set_iff]at h;exact⟨m.toNat,by omega,by omega⟩
theorem has_rng {m d:Int} (h:has m d=true):∃k:Nat,d=k/\k<8:=by
 have:=has_lt m d h;exact⟨d.toNat,by omega,by omega⟩
theorem has_out {m d:Int} (h:¬(0<=d/\d<8)):has m d=false:=by
 cases hh:has m d with
 | false=>rfl
 | true=>have:=has_lt m d hh;omega
theorem set_with {f d:Int} (hf:set f=true) (hd:0<=d/\d<8):set (with_ f d)=true:=by
 obtain⟨F,rfl,hF⟩:=set_has hf;obtain⟨D,rfl⟩:=f9 hd.1;exact(with_dec F hF D (by omega)).1
theorem with_has {f d:Int} (hf:set f=true) (hd:0<=d/\d<8) (e:Int):has (with_ f d) e=(has f e||decide (e=d)):=by
 obtain⟨F,rfl,hF⟩:=set_has hf;obtain⟨D,rfl⟩:=f9 hd.1
 by_cases he:0<=e/\e<8
 ·obtain⟨E,rfl⟩:=f9 he.1;rw[(with_dec F hF D (by omega)).2 E (by omega)];have e2:decide (E=D)=decide ((E:Int)=(D:Int)):=by rw[a1J];omega
  rw[e2]
 ·rw[has_out he,has_out he,n7 (by omega)];rfl
theorem set_without {f d:Int} (hf:set f=true) (hd:0<=d/\d<8):set (without f d)=true:=by
 obtain⟨F,rfl,hF⟩:=set_has hf;obtain⟨D,rfl⟩:=f9 hd.1;exact(without_dec F hF D (by omega)).1
theorem without_has {f d:Int} (hf:set f=true) (hd:0<=d/\d<8) (e:Int):has (without f d) e=(has f e&& !decide (e=d)):=by
 obtain⟨F,rfl,hF⟩:=set_has hf;obtain⟨D,rfl⟩:=f9 hd.1
 by_cases he:0<=e/\e<8
 ·obtain⟨E,rfl⟩:=f9 he.1;rw[(without_dec F hF D (by omega)).2 E (by omega)];have e2:decide (E=D)=decide ((E:Int)=(D:Int)):=by rw[a1J];omega
  rw[e2]
 ·rw[has_out he,has_out he];rfl
theorem set_all (n:Nat) (h:n<=8):set (all n)=true:=(all_dec n h).1
theorem all_has (n:Nat) (h:n<=8) (e:Int):has (all n) e=(decide (0<=e)&&decide (e<n)):=by
 by_cases he:0<=e/\e<8
 ·obtain⟨E,rfl⟩:=f9 he.1;rw[(all_dec n h).2 E (by omega),i7 he.1,q9,a1J];omega
 ·rw[has_out he]
  by_cases h0:0<=e
  ·rw[n7 (p:=e<n) (by omega)];simp
  ·rw[n7 h0];rfl
theorem ext {m k:Int} (hm:set m=true) (hk:set k=true) (h:∀d:Nat,d<8->has m (d:Nat)=has k (d:Nat)):m=k:=by
 obtain⟨M,rfl,hM⟩:=set_has hm;obtain⟨K,rfl,hK⟩:=set_has hk;refine congrArg (Nat.cast:Nat->Int) (Nat.eq_of_testBit_eq λi=>?_)
 by_cases hi:i<8
 ·have:=h i hi;simp only[has,hm,hk,q9,i9]at this;have e1:decide ((0:Int)<=(i:Int))=true:=i7 (by omega);have e2:decide ((i:Int)<8)=true:=i7 (by omega)
  rwa [e1,e2,q9,q9,q9]at this
 ·have h8:∀M,M<256->M.testBit i=false:=λM hM=>Nat.testBit_lt_two_pow (a5U hM (by
   have:(2:Nat)^8<=2^i:=a0m (by omega) (by omega);omega))
  rw[h8 M hM,h8 K hK]
theorem has_zero (d:Int):has 0 d=false:=by
 unfold has;simp
end L
theorem b3g (x:Nat) (h:x<1000000):Go.IntKind.i64.wrap (x:Int)=x:=by
 show(if((true&&decide ((x:Int) % 18446744073709551616>=9223372036854775808))=true)then(x:Int) % 18446744073709551616-18446744073709551616 else(x:Int) % 18446744073709551616)=x;rw[d4 (by rw[q9,d6];omega)];omega
theorem b3a {a b:Int} (ha:L.set a=true) (hb:L.set b=true):L.set (Tl.andN a b)=true/\∀e:Int,L.has (Tl.andN a b) e=(L.has a e&& !L.has b e):=by
 obtain⟨A,rfl,hA⟩:=L.set_has ha;obtain⟨B,rfl,hB⟩:=L.set_has hb;have e1:((BitVec.ofInt 64 (A:Int)&&& ~~~BitVec.ofInt 64 (B:Int)).toNat)<256:=by
  rw[BitVec.toNat_and];refine Nat.lt_of_le_of_lt Nat.and_le_left ?_;rw[BitVec.toNat_ofInt];simp;omega
 have e2:∀i,i<8->(BitVec.ofInt 64 (A:Int)&&& ~~~BitVec.ofInt 64 (B:Int)).toNat.testBit i=(A.testBit i&& !B.testBit i):=λi hi=>by
  rw[BitVec.testBit_toNat,BitVec.getLsbD_and,BitVec.getLsbD_not];have h1:∀C:Nat,C<256->(BitVec.ofInt 64 (C:Int)).getLsbD i=C.testBit i:=λC hC=>by
   rw[<- BitVec.testBit_toNat,BitVec.toNat_ofInt];have:((C:Int) % (((2^64:Nat)):Int)).toNat=C:=by omega
   rw[this]
  rw[h1 A hA,h1 B hB,i7 (by omega),q9]
 have e3:Tl.andN (A:Int) (B:Int)=((BitVec.ofInt 64 (A:Int)&&& ~~~BitVec.ofInt 64 (B:Int)).toNat:Int):=by
  unfold Tl.andN;show IntKind.i64.wrap (((BitVec.ofInt 64 (A:Int)&&& ~~~BitVec.ofInt 64 (B:Int)).toNat:Nat):Int)=_;generalize(BitVec.ofInt 64 (A:Int)&&& ~~~BitVec.ofInt 64 (B:Int)).toNat=x at e1;exact b3g x (by omega)
 generalize hx:(BitVec.ofInt 64 (A:Int)&&& ~~~BitVec.ofInt 64 (B:Int)).toNat=x at e1 e2 e3;rw[e3];have hs:L.set (x:Int)=true:=by rw[L.set_iff];omega
 refine⟨hs,λe=>?_⟩
 by_cases he:0<=e/\e<8
 ·obtain⟨E,rfl⟩:=f9 he.1;simp only[L.has,hs,ha,hb,q9,i9];rw[i7 (p:=(0:Int)<=(E:Int)) (by omega),i7 (p:=(E:Int)<8) (by omega),e2 E (by omega)];rfl
 ·rw[L.has_out he,L.has_out he];rfl
theorem a6v {N:Nand} {b r:Int}:∀(q:List (Int×Sh)) (f:Int),L.set f=true->(∀x∈q,0<=x.1/\x.1<8)->L.set (a0B N b r q f)=true/\∀d:Int,L.has (a0B N b r q f) d=(L.has f d||q.any λx=>decide (x.1=d)&&N.failB b r x.1)
 | [],f,hf,_=>⟨hf,λd=>by simp[a0B]⟩
 | x::q,f,hf,hq=>by
  have hx:=hq x (by simp);rw[a0B];cases hb:N.failB b r x.1 with
  | false=>
   rw[d4 l4];have ih:=a6v (N:=N) (b:=b) (r:=r) q f hf λy hy=>hq y (by simp[hy]);refine⟨ih.1,λd=>?_⟩;rw[ih.2,List.any_cons,hb,Bool.and_false,D6]
  | true=>
   rw[d7 rfl];have ih:=a6v (N:=N) (b:=b) (r:=r) q (L.with_ f x.1) (L.set_with hf hx) λy hy=>hq y (by simp[hy]);refine⟨ih.1,λd=>?_⟩;rw[ih.2,L.with_has hf hx,List.any_cons,hb,Bool.and_true,Bool.or_assoc];congr 2;rw[a1J];omega
namespace Tl
theorem at_set {t:Tl} (hl:t.l.length=t.b) {k j:Int} (s:Sb) (hk:t.has k=true) (hj:t.has j=true):(t.set k s).at_ j=if j=k then s else t.at_ j:=by
 unfold set;rw[d7 hk];simp only[has,f8,d6]at hk hj;unfold at_;dsimp only
 by_cases e:j=k
 ·subst e;rw[d7 rfl,d5,List.getElem?_set_self (by omega)];rfl
 ·rw[d4 e,d5,List.getElem?_set_ne (by omega),<- d5]
theorem has_set (t:Tl) (k j:Int) (s:Sb):(t.set k s).has j=t.has j:=by unfold has;rw[set_b]
theorem has_iff {t:Tl} {k:Int}:t.has k=true↔0<=k/\k<t.b:=by simp[has]
theorem set_no {t:Tl} {k:Int} (s:Sb) (h:t.has k=false):t.set k s=t:=by unfold set;rw[h];rfl
end Tl
end
section
open Go
structure FitR (e:En):Prop where
 lpn:0<=e.lpn/\e.lpn<=65535
 role:e.role=1\/((e.role=2\/e.role=4)/\e.data=zeros16)
 len:e.data.length=16
theorem c1h {b r m:Int} {e:En} (hb:0<=b/\b<=15) (hr:0<=r/\r<=7) (hm:2<=L.count m) (hs:0<=e.seq/\e.seq<=1099511627775) (h:FitR e\/e=En.pad):W.ok b r m e=true:=by
 have h5:S.entry (W.sh b r m e)=true:=by
  rcases h with h | h
  ·unfold S.entry;have e1:(W.sh b r m e).role=e.role:=rfl;have e2:(W.sh b r m e).data=e.data:=rfl;rw[e1,e2];rcases h.role with h3 | ⟨h3 | h3,h4⟩
   ·rw[d7 h3]
   ·rw[d4 (by omega),d7 (.inl h3),i7 h4]
   ·rw[d4 (by omega),d7 (.inr h3),i7 h4]
  ·rw[h];rfl
 have h6:(0<=e.role/\e.role<=255)/\(0<=e.lpn/\e.lpn<=65535):=by
  rcases h with h | h
  ·have:=h.lpn;rcases h.role with h3 | ⟨h3 | h3,h4⟩<;>omega
  ·rw[h];decide
 have h7:S.place (W.sh b r m e)=true:=by
  unfold S.place S.inB;rw[i7 (show 2<=L.count (W.sh b r m e).mask from hm),i7 (show 0<=(W.sh b r m e).block from hb.1),i7 (show(W.sh b r m e).block<=15 from hb.2),i7 (show 0<=(W.sh b r m e).row from hr.1),i7 (show(W.sh b r m e).row<=7 from hr.2)];rfl
 have h8:S.numbers (W.sh b r m e)=true:=by
  unfold S.numbers S.inB;rw[i7 (show 0<=(W.sh b r m e).seq from hs.1),i7 (show(W.sh b r m e).seq<=1099511627775 from hs.2),i7 (show 0<=(W.sh b r m e).lpn from h6.2.1),i7 (show(W.sh b r m e).lpn<=65535 from h6.2.2),i7 (show 0<=(W.sh b r m e).role from h6.1.1),i7 (show(W.sh b r m e).role<=255 from h6.1.2)];rfl
 unfold W.ok S.may;rw[h5,h7,h8];rfl
structure Msk (D:Nat) (fd m:Int):Prop where
 set:L.set m=true
 lt:∀d:Int,L.has m d=true->d<D
 all:∀d:Nat,d<D->(d:Int)≠fd->L.has m (d:Nat)=true
theorem a6e:∀D,D<7->3<=D->G.slots (L.all (D:Nat))=(D:Int)-1/\L.count (L.all (D:Nat))=D/\L.all (D:Nat)<2^D:=by decide+kernel
theorem b7e:∀D,D<7->3<=D->∀d,d<D->G.slots (L.without (L.all (D:Nat)) (d:Nat))=(D:Int)-2/\L.count (L.without (L.all (D:Nat)) (d:Nat))=D-1/\L.without (L.all (D:Nat)) (d:Nat)<2^D:=by decide+kernel
namespace Msk
variable {D : Nat} {fd m : Int}
theorem eq (h:Msk D fd m) (hD:3<=D/\D<=6):(m=L.all (D:Nat)/\(0<=fd/\fd<D->L.has m fd=true))\/(0<=fd/\fd<D/\L.has m fd=false/\m=L.without (L.all (D:Nat)) fd):=by
 have hs:=L.set_all D (by omega)
 by_cases hf:(0<=fd/\fd<D)/\L.has m fd=false
 ·right;refine⟨hf.1.1,hf.1.2,hf.2,L.ext h.set (L.set_without hs (by omega)) λd hd=>?_⟩;rw[L.without_has hs (by omega),L.all_has D (by omega),i7 (p:=(0:Int)<=(d:Int)) (by omega),q9]
  by_cases hlt:d<D
  ·rw[i7 (p:=(d:Int)<D) (by omega),q9]
   by_cases e:(d:Int)=fd
   ·rw[e,hf.2];simp
   ·rw[h.all d hlt e,n7 e];rfl
  ·rw[n7 (p:=(d:Int)<D) (by omega),a0c];cases hh:L.has m (d:Nat)with
   | false=>rfl
   | true=>have:=h.lt _ hh;omega
 ·left;have hff:0<=fd/\fd<D->L.has m fd=true:=λhr=>by
   cases hh:L.has m fd with
   | true=>rfl
   | false=>exact absurd ⟨hr,hh⟩ hf
  refine⟨L.ext h.set hs λd hd=>?_,hff⟩;rw[L.all_has D (by omega),i7 (p:=(0:Int)<=(d:Int)) (by omega),q9]
  by_cases hlt:d<D
  ·rw[i7 (p:=(d:Int)<D) (by omega)]
   by_cases e:(d:Int)=fd
   ·rw[e];exact hff (by omega)
   ·exact h.all d hlt e
  ·rw[n7 (p:=(d:Int)<D) (by omega)];cases hh:L.has m (d:Nat)with
   | false=>rfl
   | true=>have:=h.lt _ hh;omega
def full (D:Nat) (fd m:Int):Bool:=!(decide (0<=fd)&&decide (fd<D))||L.has m fd
theorem slots (h:Msk D fd m) (hD:3<=D/\D<=6):G.slots m=(if full D fd m then(D:Int)-1 else(D:Int)-2)/\2<=L.count m/\0<=m/\m<2^D:=by
 have hm0:0<=m:=by have:=(L.set_iff m).1 h.set;omega
 rcases h.eq hD with⟨e,hf⟩ | ⟨h1,h2,h3,e⟩
 ·have hfull:full D fd m=true:=by
   unfold full
   by_cases hr:0<=fd/\fd<D
   ·rw[hf hr];simp
   ·by_cases h0:0<=fd
    ·rw[n7 (p:=fd<D) (by omega)];simp
    ·rw[n7 h0];simp
  obtain⟨a1,a2,a3⟩:=a6e D (by omega) hD.1;rw[hfull,d7 rfl];rw[e]at hm0 ⊢;exact⟨a1,by omega,hm0,a3⟩
 ·have hfull:full D fd m=false:=by
   unfold full;rw[i7 h1,i7 h2,h3];rfl
  obtain⟨d,hd⟩:=f9 h1;obtain⟨a1,a2,a3⟩:=b7e D (by omega) hD.1 d (by omega);rw[hfull,d4 l4];rw[e,hd]at hm0 ⊢;exact⟨a1,by omega,hm0,a3⟩
theorem pos (h:Msk D fd m) (hD:3<=D/\D<=6):1<=G.slots m/\(D:Int)-2<=G.slots m/\G.slots m<=(D:Int)-1:=by
 have:=(h.slots hD).1;split at this<;>omega
end Msk
def a7d (N:Nand) (x:Int×Sh) (b r:Int):Prop:=∃c,N.pageAt x.1 b r=some c/\c.lost=false/\S.getE c.p=0
structure Full (fd:Int) (N:Nand) (b r m:Int) (l:List En):Prop where
 is:RowIs N b r m l
 good:∀x∈R.job b r m l,x.1≠fd->a7d N x b r
 inn:RowIn N b r m l
namespace Full
variable {fd : Int} {N : Nand} {b r m : Int} {l : List En}
theorem keep (h:Full fd N b r m l) {N':Nand} (like:N.Like N') (hp:∀x∈R.job b r m l,N'.pageAt x.1 b r=N.pageAt x.1 b r):Full fd N' b r m l:=
 ⟨h.is.like like,λx hx hne=>by unfold a7d;rw[hp x hx];exact h.good x hx hne,λx hx c hc=>h.inn x hx c (by rw[<- hp x hx];exact hc)⟩
theorem okAll2 (h:Full fd N b r m l) (hoff:N.off=false) (hdead:∀x∈R.job b r m l,x.1≠fd->N.dead.getD x.1.toNat false=false) {i:Nat} (hi:i<l.length):okG (gOf N b r m l) l.length i=true:=by
 have hjl:(R.job b r m l).length=l.length+1:=by simp[R.job]
 have hg:∀k x,(R.job b r m l)[k]? =some x->x.1≠fd->gOf N b r m l k=true:=λk x hk hne=>by
  have hx:=j9 hk;obtain⟨c,hc,hcl,hcE⟩:=h.good x hx hne;obtain⟨n1,n2,n3⟩:=h.is.inn x hx;have hr:N.refuses x.1 b r=0:=by
   unfold Nand.refuses;rw[hoff,d4 (by decide),Nand.geoIn_of ⟨n1,n2⟩ h.is.blk h.is.row,d4 (by decide),hdead x hx hne];rfl
  unfold gOf;rw[hk];show((M.look N x.1 b r).2==1)=true;rw[a4d (h.is.sh x hx).1 hr hc (h.inn x hx c hc) hcl hcE];rfl
 have hat:∀k,k<=l.length->∃x,(R.job b r m l)[k]? =some x:=λk hk=>⟨_,c9 (by omega)⟩;unfold okG;rw[j7];obtain⟨x,hx⟩:=hat i (by omega)
 by_cases hne:x.1=fd
 ·right;unfold b0Y;rw[E8];intro k hk;have hk:=List.mem_range.1 hk
  by_cases e:k=i
  ·simp[e]
  ·obtain⟨y,hy⟩:=hat k (by omega);have:y.1≠fd:=λe2=>e (by
    have hnd:=h.is.nodup;have e3:((R.job b r m l).map (·.1))[k]? =((R.job b r m l).map (·.1))[i]?:=by rw[i5,i5,hx,hy];simp[e2,hne]
    exact(W9 (by rw[j5];omega) hnd).1 e3)
   rw[hg k y hy this];simp
 ·exact .inl (hg i x hx hne)
theorem okAll (h:Full fd N b r m l) (hoff:N.off=false) (hdead:∀i:Nat,(i:Int)≠fd->N.dead.getD i false=false) {i:Nat} (hi:i<l.length):okG (gOf N b r m l) l.length i=true:=
 h.okAll2 hoff (λx hx hne=>hdead _ (by have:=h.is.inn x hx;omega)) hi
theorem read (h:Full fd N b r m l) (hoff:N.off=false) (hdead:∀i:Nat,(i:Int)≠fd->N.dead.getD i false=false) {i:Nat} (hi:i<l.length):R.read N b r (i:Nat) m=(l.getD i En.zero,0):=by
 rw[(h.inn.part h.is).read h.is hoff hi,h.okAll hoff hdead hi,d7 rfl]
end Full
structure FullW (fd:Int) (N:Nand) (b r m:Int) (l:List En) (s:Nat):Prop where
 is:RowIs N b r m l
 good:(∀x∈R.job b r m l,x.1≠fd->a7d N x b r)\/fd= -2/\(∃x,(R.job b r m l)[s]? =some x/\a7d N x b r)/\∀k,k<l.length->(l.getD k En.zero).seq=(l.getD s En.zero).seq->k=s
 inn:RowIn N b r m l
theorem Full.w {fd:Int} {N:Nand} {b r m:Int} {l:List En} (h:Full fd N b r m l) (s:Nat):FullW fd N b r m l s:=⟨h.is, .inl h.good,h.inn⟩
namespace FullW
variable {fd : Int} {N : Nand} {b r m : Int} {l : List En} {s : Nat}
theorem keep (h:FullW fd N b r m l s) {N':Nand} (like:N.Like N') (hp:∀x∈R.job b r m l,N'.pageAt x.1 b r=N.pageAt x.1 b r):FullW fd N' b r m l s:=
 ⟨h.is.like like,h.good.imp (λhg x hx hne=>by unfold a7d;rw[hp x hx];exact hg x hx hne) λ⟨e,⟨x,hx,ht⟩,hu⟩=>⟨e,⟨x,hx,by unfold a7d;rw[hp x (j9 hx)];exact ht⟩,hu⟩,λx hx c hc=>h.inn x hx c (by rw[<- hp x hx];exact hc)⟩
theorem okAll (h:FullW fd N b r m l s) (hoff:N.off=false) (hdead:∀i:Nat,(i:Int)≠fd->N.dead.getD i false=false) (hi:s<l.length):okG (gOf N b r m l) l.length s=true:=by
 rcases h.good with hg | ⟨e,⟨x,hx,c,hc,hcl,hcE⟩,_⟩
 ·exact(Full.mk h.is hg h.inn).okAll hoff hdead hi
 ·unfold okG;rw[j7];left;have hm:=j9 hx;obtain⟨n1,n2,n3⟩:=h.is.inn x hm;have hr:N.refuses x.1 b r=0:=by
   unfold Nand.refuses;rw[hoff,d4 (by decide),Nand.geoIn_of ⟨n1,n2⟩ h.is.blk h.is.row,d4 (by decide),hdead x.1.toNat (by omega)];rfl
  unfold gOf;rw[hx];show((M.look N x.1 b r).2==1)=true;rw[a4d (h.is.sh x hm).1 hr hc (h.inn x hm c hc) hcl hcE];rfl
theorem read (h:FullW fd N b r m l s) (hoff:N.off=false) (hdead:∀i:Nat,(i:Int)≠fd->N.dead.getD i false=false) (hi:s<l.length):R.read N b r (s:Nat) m=(l.getD s En.zero,0):=by
 rw[(h.inn.part h.is).read h.is hoff hi,h.okAll hoff hdead hi,d7 rfl]
end FullW
theorem WroteR.page {N N':Nand} {b r:Int} {q:List (Int×Sh)} (h:WroteR N N' b r q) (hq:RdyR N b r q) {d b0 r0:Int} (hd:0<=d) (hb:0<=b0) (hr:0<=r0) (hne:b0=b->r0≠r):N'.pageAt d b0 r0=N.pageAt d b0 r0:=by
 unfold Nand.pageAt
 by_cases e:b0=b
 ·by_cases hx:∀x∈q,x.1.toNat≠d.toNat
  ·rw[h.rest _ _ (.inr hx)]
  ·simp only[Classical.not_forall,not_imp,a1r]at hx;obtain⟨x,hx,hxd⟩:=hx;have hc:=h.cells x hx;rw[hxd,<- e]at hc;rw[hc];split
   ·rfl
   ·rename_i ha;have ha:N.dead.getD d.toNat false=false:=by simpa using ha
    have hl:=hq.cells x hx (by rw[hxd];exact ha);rw[hxd,<- e]at hl;have:=hne e;have:=hq.row;rw[I8];split
    ·rfl
    ·rw[j6 (by simp only[l6,a1c];omega),j6 (by omega)]
 ·rw[h.rest _ _ (.inl (by have:=hq.blk;omega))]
structure Std (fd:Int) (S:Dv) (i:Int) (a:AtV):Prop where
 row:∃l,FullW fd S.N a.block a.row a.mask l a.slot.toNat/\0<=a.slot/\a.slot.toNat<l.length/\(l.getD a.slot.toNat En.zero).lpn=i/\(l.getD a.slot.toNat En.zero).seq=a.seq/\(l.getD a.slot.toNat En.zero).role=a.role
 used:(S.t.at_ a.block).used=true
 below:a.block=S.op->a.row<S.row
 seq:1<=a.seq/\a.seq<S.next
structure Opn (fd:Int) (S:Dv):Prop where
 blk:0<=S.op/\S.op<S.N.blocks
 used:(S.t.at_ S.op).used=true
 row:0<=S.row/\S.row<=S.N.pages
 mask:Msk S.N.dies fd S.mask
 cells:∀d:Nat,L.has S.mask (d:Nat)=true->((S.N.blk d S.op.toNat).cells.length:Int)<=S.row/\(S.N.dead.getD d false=false->((S.N.blk d S.op.toNat).cells.length:Int)=S.row)
structure Inv (fd:Int) (S:Dv):Prop where
 lit:S.N.Lit
 dead:∀i:Nat,(i:Int)≠fd->S.N.dead.getD i false=false
 plan:∀a∈S.N.plan,a.1=fd
 flags:∀i j:Nat,(i:Int)≠fd->(S.N.blk i j).met=false/\(S.N.blk i j).fails=false
 tdead:L.set S.t.dead=true/\∀d:Int,L.has S.t.dead d=true->d=fd
 tbad:∀b,S.t.has b=true->L.set (S.t.at_ b).bad=true/\∀d:Int,L.has (S.t.at_ b).bad d=true->d=fd
 op:S.op= -1\/Opn fd S
 blank:∀b,S.t.has b=true->(S.t.at_ b).used=false->∀d:Nat,L.has (S.t.mask b) (d:Nat)=true->(S.N.blk d b.toNat).cells=[]
 st:∀i a,Tb.look S.T.at_ i=some a->Std fd S i a
theorem a0A {t:Tl} {b:Int} (hd:t.d<=8) (hb:t.has b=true) (h1:L.set t.dead=true) (h2:L.set (t.at_ b).bad=true):L.set (t.mask b)=true/\∀e:Int,L.has (t.mask b) e=((decide (0<=e)&&decide (e<t.d))&& !L.has t.dead e&& !L.has (t.at_ b).bad e):=by
 have ha:=L.set_all t.d hd;have x1:=b3a ha h1;have x2:=b3a x1.1 h2;unfold Tl.mask;rw[d7 hb];exact⟨x2.1,λe=>by rw[Tl.alive,x2.2,x1.2,L.all_has _ hd]⟩
namespace Inv
variable {fd : Int} {S : Dv} {k m : Nat}
theorem msk (h:Inv fd S) (hO:S.Ok k m) {b:Int} (hb:S.t.has b=true):Msk S.N.dies fd (S.t.mask b):=by
 have hg:=hO.gd.ok.bd16;have hd:=hO.t.d;obtain⟨m1,m2⟩:=a0A (by omega) hb h.tdead.1 (h.tbad b hb).1;refine⟨m1,λd hh=>?_,λd hlt hne=>?_⟩
 ·rw[m2]at hh;simp only[f8,d6]at hh;omega
 ·rw[m2,i7 (p:=(0:Int)<=(d:Int)) (by omega),i7 (p:=(d:Int)<S.t.d) (by omega)];have e1:L.has S.t.dead (d:Nat)=false:=by
   cases hh:L.has S.t.dead (d:Nat)with
   | false=>rfl
   | true=>exact absurd (h.tdead.2 _ hh) hne
  have e2:L.has (S.t.at_ b).bad (d:Nat)=false:=by
   cases hh:L.has (S.t.at_ b).bad (d:Nat)with
   | false=>rfl
   | true=>exact absurd ((h.tbad b hb).2 _ hh) hne
  rw[e1,e2];rfl
theorem usable (h:Inv fd S) (hO:S.Ok k m) {b:Int} (hb:S.t.has b=true):S.t.usable b=true:=by
 have hg:=hO.gd.ok.bd16;have:=((h.msk hO hb).pos hg.1).1;unfold Tl.usable;exact i7 (by omega)
theorem read (h:Inv fd S) {i:Int} {a:AtV} (ha:Tb.look S.T.at_ i=some a):∃e,R.read S.N a.block a.row a.slot a.mask=(e,0)/\e.lpn=i/\e.seq=a.seq/\e.role=a.role:=by
 obtain⟨l,h1,h2,h3,h4,h5,h6⟩:=(h.st i a ha).row;refine⟨_,?_,h4,h5,h6⟩;have:=h1.read h.lit.off h.dead h3
 rwa [show((a.slot.toNat:Nat):Int)=a.slot from by omega]at this
end Inv
namespace V
theorem step_tb' (N:Nand) (L:List Fnd) (s:Sst) (k:Nat):(step N L s k).tb=if(standOf (of L k)).2=true then s.tb.put (standOf (of L k)).1.en (standOf (of L k)).1.block (standOf (of L k)).1.row (standOf (of L k)).1.slot (standOf (of L k)).1.mask else s.tb:=by
 unfold step
 by_cases h:(standOf (of L k)).2=true
 ·rw[d7 h,d7 h];split
  ·rfl
  ·split<;>rfl
 ·rw[d4 h,d4 h]
theorem look_put (t:Tb) (e:En) (b r s m:Int) (i:Int):Tb.look (t.put e b r s m).at_ i=if t.putB e=true/\i=e.lpn then some ⟨b,r,s,m,e.seq,e.role⟩else Tb.look t.at_ i:=by
 unfold Tb.put
 by_cases h:t.putB e=true
 ·rw[d7 h];show Tb.look (Tb.put1 t.at_ e.lpn _) i=_;rw[Tb.look_put1]
  by_cases hi:i=e.lpn
  ·rw[d7 hi,d7 ⟨h,hi⟩]
  ·rw[d4 hi,d4 (λh=>hi h.2)]
 ·rw[d4 h,d4 (λh'=>h h'.1)]
theorem goS_look (N:Nand) (L:List Fnd) (n:Int):∀k i:Nat,Tb.look (goS N L n k).tb.at_ (i:Int)=if i<k/\(standOf (of L i)).2=true/\Tb.ok (Tb.new n) (standOf (of L i)).1.en=true then some ⟨(standOf (of L i)).1.block,(standOf (of L i)).1.row,(standOf (of L i)).1.slot,(standOf (of L i)).1.mask,(standOf (of L i)).1.en.seq,(standOf (of L i)).1.en.role⟩else none
 | 0,i=>by rw[d4 (by omega)];rfl
 | k+1,i=>by
  have ih:=goS_look N L n k;have hlog:(goS N L n k).tb.logical=(Tb.new n).logical:=goS_log N L n k;rw[goS_succ,step_tb']
  by_cases hs:(standOf (of L k)).2=true
  ·have hlpn:(standOf (of L k)).1.en.lpn=k:=by
    have:=(List.mem_filter.1 (standOf_mem hs)).2;exact a3i this
   have hok:(goS N L n k).tb.putB (standOf (of L k)).1.en=Tb.ok (Tb.new n) (standOf (of L k)).1.en:=by
    unfold Tb.putB Tb.elder;rw[hlpn,ih k,d4 (by omega)];unfold Tb.ok;rw[hlog];simp
   rw[d7 hs,look_put,hok,hlpn,ih i]
   by_cases hik:i=k
   ·subst hik
    by_cases ho:Tb.ok (Tb.new n) (standOf (of L i)).1.en=true
    ·rw[d7 ⟨ho,rfl⟩,d7 ⟨by omega,hs,ho⟩]
    ·rw[d4 (λh=>ho h.1),d4 (by omega),d4 (λh=>ho h.2.2)]
   ·rw[d4 (λh=>hik (by omega))]
    by_cases hc:(standOf (of L i)).2=true/\Tb.ok (Tb.new n) (standOf (of L i)).1.en=true
    ·by_cases hlt:i<k
     ·rw[d7 ⟨hlt,hc⟩,d7 ⟨by omega,hc⟩]
     ·rw[d4 (λh=>hlt h.1),d4 (λh=>by omega)]
    ·rw[d4 (λh=>hc h.2),d4 (λh=>hc h.2)]
  ·rw[d4 hs,ih i]
   by_cases hik:i=k
   ·subst hik;rw[d4 (by omega),d4 (λh=>hs h.2.1)]
   ·by_cases hc:(standOf (of L i)).2=true/\Tb.ok (Tb.new n) (standOf (of L i)).1.en=true
    ·by_cases hlt:i<k
     ·rw[d7 ⟨hlt,hc⟩,d7 ⟨by omega,hc⟩]
     ·rw[d4 (λh=>hlt h.1),d4 (λh=>by omega)]
    ·rw[d4 (λh=>hc h.2),d4 (λh=>hc h.2)]
end V
end
end Go.Proofs.YtmafiplddapokaaGreat
