/- Helpers, proved here. No condition. -/
import Derived.Test.YtkdlnfdjjifedaaGreatD06
import Derived.Test.YtkdlnfdjjifedaaGreatD23
import Derived.Test.YtkdlnfdjjifedaaGreatD24
import Derived.Test.YtkdlnfdjjifedaaGreatD25
set_option maxRecDepth 20000
set_option linter.all false
namespace Go.Proofs.YtkdlnfdjjifedaaGreat
open Go Go.RowKit
def dueP (ops:Int) (f:Fl):Bool:=decide (f.at_<=ops)
def dueF (ops:Int) (L:List Fl):List Fl:=L.takeWhile (dueP ops)
def leftF (ops:Int) (L:List Fl):List Fl:=L.dropWhile (dueP ops)
theorem u_Due (p:Nat) (a:Option (Nat×Nat)) (c:Nat) (L:List Fl) (hz:a=none->c=0) (hc:L.length<=c) (hn:L.length<=1000) (ops:Int):Fn Tryz.prog 150 [.pointer (some ⟨p,0,none⟩), .int .i64 ops] (PlanP p a c L)
  (λv As=>∃a' c' a2 c2,(a'=none->c'=0)/\(leftF ops L).length<=c'/\v=slv a2 (dueF ops L).length c2/\As=PlanP p a' c' (leftF ops L)++[ownA 34 7 a2 (dueF ops L).length c2 (cellsFl (dueF ops L))]):=by
 refine Fn.enter [2,0] Tryz.func150 rfl rfl rfl λX F hX=>?_;refine J.q hX λ_=>?_;refine J.cF ?_;refine J.q hX λ_=>?_;refine J.lo (α:=Nat) (λk=>k<=(dueF ops L).length) (λk=>[⟨5, .int .i64 k,0, .tt⟩,⟨0, .pointer (some ⟨p,0,none⟩),2, .tt⟩,⟨1, .int .i64 ops,0, .tt⟩]) [] (λk=>[]) (λk=>L.length-k) (0) (Nat.zero_le _) rfl ?_ (λ_=>rfl) λk hI=>?_
 ·rfl
 have hle:(dueF ops L).length<=L.length:=tw_le _ _;obtain⟨htk,hdr⟩:=tw_take (dueP ops) L;have htk:L.take (dueF ops L).length=dueF ops L:=htk;have hdr:L.drop (dueF ops L).length=leftF ops L:=hdr;refine J.qn hX 10 λ_=>?_;rcases Nat.lt_or_ge k L.length with h1 | h1
 ·obtain⟨x,hx⟩:∃x,L[k]? =some x:=⟨_,List.getElem?_eq_getElem h1⟩;have htw:=tw_step (dueP ops) L k x hI hx;refine J.know (λh' s=>oad2_some (show rdP (oad2 a) 7 L.length (cellsFl L) h' from s.get (i:=2) rfl) (by omega)) λhg=>?_;obtain⟨⟨g,o⟩,rfl⟩:=hg;rw[show decide ((k:Int)<(L.length:Int))=true from decide_eq_true (by omega)];refine J.q hX λ_=>?_;refine J.val hX (.int .i64 x.at_) 0 rfl rfl (λhg aa w he hw=>rd1_run tk rfl rfl he rfl rfl rfl (rdA_rd _ _ _ _ _ (hw.get (i:=2) rfl)) (by omega) (j:=k*7+0) (by omega) (flat_cell flC 7 (λ_=>rfl) hx 0 (by omega))) rfl trivial ?_;refine J.q hX λ_=>?_;refine J.cond rfl (λh2=>?_) (λh2=>?_)
  ·simp only[Bool.true_and]at h2;have hk:=htw.1 h2;refine J.q hX λ_=>?_;refine J.nS (k+1) (hk) (by omega) [0,1,2] rfl rfl
  ·simp only[Bool.true_and]at h2;have hk:k=(dueF ops L).length:=htw.2 h2;subst hk;refine J.qn hX 8 λ_=>?_;refine J.val hX (.slice (oad2 (some (g,o))) (dueF ops L).length c) 0 rfl rfl (λhg aa w he hw=>cutH_run tk rfl rfl rfl he rfl rfl rfl rfl (by omega)) rfl trivial ?_;refine J.q hX λ_=>?_;refine J.cb hX (x_CloneFl (some (g,o)) L.length c (dueF ops L).length L rfl hz hle hc (by omega)) [2] ?_;rintro v As ⟨a2,c2,rfl,rfl⟩;refine⟨_,rfl,trivial,?_⟩;refine J.qn hX 10 λ_=>?_;refine J.val hX (.slice (oad2 (cutA (some (g,o)) 7 (dueF ops L).length c)) (L.length-(dueF ops L).length) (c-(dueF ops L).length)) 0 rfl rfl (λhg aa w he hw=>cutlo2_run tk rfl rfl rfl he rfl rfl rfl rfl rfl hle) rfl trivial ?_;refine J.q hX λ_=>?_;refine J.turn1 [2] rfl (As:=[rdA (oad2 (cutA (some (g,o)) 7 (dueF ops L).length c)) 7 (L.length-(dueF ops L).length) ((cellsFl L).drop ((dueF ops L).length*7))]) (λh s=>Sep.one (rd_cutA (show rdP (oad2 (some (g,o))) 7 L.length (cellsFl L) h from s.get (i:=0) rfl) hle hc)) rfl ?_;refine J.q hX λ_=>?_;refine J.ru hX [1,2,3] ?_;refine⟨cutA (some (g,o)) 7 (dueF ops L).length c,c-(dueF ops L).length,a2,c2,cutA_none hz,by rw[<- hdr,List.length_drop];omega,rfl,?_⟩;unfold PlanP;rw[<- hdr,List.length_drop,cellsFl_drop,htk];rfl
 ·have hk:k=(dueF ops L).length:=by omega
  rw[show decide ((k:Int)<(L.length:Int))=false from decide_eq_false (by omega)];refine J.qn hX 6 λ_=>?_;refine J.val hX (.pointer (some ⟨0,0,none⟩)) 0 rfl rfl (λhg a w he hw=>by simp[G.on]at hg) rfl trivial ?_;refine J.qn hX 1 λ_=>?_;refine J.val hX (.int .i64 0) 0 rfl rfl (λhg a w he hw=>by simp[G.on]at hg) rfl trivial ?_;refine J.q hX λ_=>?_;refine J.cF ?_;subst hk;refine J.qn hX 8 λ_=>?_;refine J.val hX (.slice (oad2 (a)) (dueF ops L).length c) 0 rfl rfl (λhg aa w he hw=>cutH_run tk rfl rfl rfl he rfl rfl rfl rfl (by omega)) rfl trivial ?_;refine J.q hX λ_=>?_;refine J.cb hX (x_CloneFl (a) L.length c (dueF ops L).length L rfl hz hle hc (by omega)) [2] ?_;rintro v As ⟨a2,c2,rfl,rfl⟩;refine⟨_,rfl,trivial,?_⟩;refine J.qn hX 10 λ_=>?_;refine J.val hX (.slice (oad2 (cutA (a) 7 (dueF ops L).length c)) (L.length-(dueF ops L).length) (c-(dueF ops L).length)) 0 rfl rfl (λhg aa w he hw=>cutlo2_run tk rfl rfl rfl he rfl rfl rfl rfl rfl hle) rfl trivial ?_;refine J.q hX λ_=>?_;refine J.turn1 [2] rfl (As:=[rdA (oad2 (cutA (a) 7 (dueF ops L).length c)) 7 (L.length-(dueF ops L).length) ((cellsFl L).drop ((dueF ops L).length*7))]) (λh s=>Sep.one (rd_cutA (show rdP (oad2 (a)) 7 L.length (cellsFl L) h from s.get (i:=0) rfl) hle hc)) rfl ?_;refine J.q hX λ_=>?_;refine J.ru hX [1,2,3] ?_;refine⟨cutA (a) 7 (dueF ops L).length c,c-(dueF ops L).length,a2,c2,cutA_none hz,by rw[<- hdr,List.length_drop];omega,rfl,?_⟩;unfold PlanP;rw[<- hdr,List.length_drop,cellsFl_drop,htk];rfl
def flN (N:Nand) (f:Fl):Nand:=(N.fault f.kind f.x f.y f.z f.n f.xx).2
def flsN (N:Nand) (l:List Fl):Nand:=l.foldl flN N
theorem flsN_take (N:Nand) (l:List Fl) {k:Nat} {x:Fl} (h:l[k]? =some x):flsN N (l.take (k+1))=flN (flsN N (l.take k)) x:=by
 unfold flsN;rw[List.take_add_one,h,Option.toList_some,List.foldl_append];rfl
theorem flsN_Gd {N:Nand} {k m:Nat} (h:N.Gd k m):∀(l:List Fl),(flsN N l).Gd k (m+l.length)
 | []=>h
 | f::l=>by
  have:=flsN_Gd (h.fault f.kind f.x f.y f.z f.n f.xx) l;rw[List.length_cons,show m+(l.length+1)=m+1+l.length from by omega];exact this
theorem u_Run (p n:Nat) (a:Option (Nat×Nat)) (c:Nat) (L:List Fl) (hz:a=none->c=0) (hc:L.length<=c) (hn:L.length<=1000) (N:Nand) (k m:Nat) (hG:N.Gd k m):Fn Tryz.prog 97 [.pointer (some ⟨p,0,none⟩), .pointer (some ⟨n,0,none⟩)] (PlanP p a c L++[NandA n N])
  (λv As=>∃a' c',(a'=none->c'=0)/\(leftF N.ops L).length<=c'/\v= .int .i64 (dueF N.ops L).length/\As=PlanP p a' c' (leftF N.ops L)++[NandA n (flsN N (dueF N.ops L))]):=by
 refine Fn.enter [2,4] Tryz.func97 rfl rfl rfl λX F hX=>?_;refine J.q hX λ_=>?_;refine J.cb hX (n_Ops n N) [3] ?_;refine cpq ⟨_,rfl,trivial,?_⟩;refine J.q hX λ_=>?_;refine J.cb hX (u_Due p a c L hz hc hn N.ops) [1,2] ?_;rintro v As ⟨a',c',a2,c2,hz',hc',rfl,rfl⟩;refine⟨_,rfl,trivial,?_⟩;have hle:(dueF N.ops L).length<=L.length:=tw_le _ _;obtain⟨R,hR⟩:∃R,leftF N.ops L=R:=⟨_,rfl⟩;obtain⟨D,hD⟩:∃D,dueF N.ops L=D:=⟨_,rfl⟩;rw[hR]at hc' ⊢;rw[hD]at hle ⊢;refine J.q hX λ_=>?_;refine J.lo (α:=Nat) (λj=>j<=D.length) (λj=>[⟨14, .int .i64 j,0, .tt⟩,⟨13, .int .i64 D.length,0, .tt⟩,⟨12,slv a2 D.length c2,0, .tt⟩,⟨5,slv a2 D.length c2,0, .tt⟩,⟨1, .pointer (some ⟨n,0,none⟩),4, .tt⟩]) [3] (λj=>[NandA n (flsN N (D.take j))]) (λj=>D.length-j) (0) (Nat.zero_le _) rfl ?_ (λ_=>rfl) λj hI=>?_
 ·rfl
 refine J.q hX λ_=>?_;refine J.cond rfl (λh1=>?_) (λh1=>?_)
 ·simp only[decide_eq_true_eq,Int.ofNat_lt]at h1;obtain⟨x,hx⟩:∃x,D[j]? =some x:=⟨_,List.getElem?_eq_getElem (by omega)⟩;have hsn:=flsN_take N D hx;have hOk:=(flsN_Gd hG (D.take j)).ok;refine J.know (λh' s=>own_some (c:=(a2,c2)) (by omega) (s.get (i:=4) rfl)) λhg=>?_;obtain⟨g,rfl⟩:=hg;refine J.q hX λ_=>?_;refine J.val hX (flV x) 0 rfl rfl (λhg aa w he hw=>ownN_run tk rfl rfl he rfl rfl rfl (hw.get (i:=4) rfl) (by rw[show 0+(j:Int).toNat*7=j*7 from by omega];exact flat_get flC 7 (λ_=>rfl) D j x hx) rfl) rfl trivial ?_;refine J.q hX λ_=>?_;refine J.cb hX (n_Fault n (flsN N (D.take j)) hOk x.at_ x.kind x.x x.y x.z x.n x.xx) [3] ?_;refine cpq ⟨_,rfl,trivial,?_⟩;rw[show((flsN N (D.take j)).fault x.kind x.x x.y x.z x.n x.xx).2=flsN N (D.take (j+1))from hsn.symm];refine J.q hX λ_=>?_;refine J.nS (j+1) (by omega) (by omega) [0,1,2,3,4] rfl rfl
 simp only[decide_eq_false_iff_not,Int.ofNat_lt]at h1;obtain rfl:j=D.length:=by omega
 rw[List.take_of_length_le (Nat.le_refl _)];refine J.q hX λ_=>?_;refine J.ru hX [1,2,3] ?_;rw[hR,hD];exact⟨a',c',hz',hc',rfl,rfl⟩
end Go.Proofs.YtkdlnfdjjifedaaGreat
namespace Go.Proofs.YtkdlnfdjjifedaaGreat
open Go
structure MPv where
 now:List UInt8
 op:Bool
 may:List (List UInt8)
 ever:List (List UInt8)
namespace Mv
def z16:List UInt8:=[0,0,0,0,0,0,0,0,0,0,0,0,0,0,0,0]
def page0:MPv:=⟨z16,false,[z16],[z16]⟩
def new (n:Int):List MPv:=List.replicate (min (max n 0) 65536).toNat page0
def inR (M:List MPv) (i:Int):Bool:=decide (0<=i)&&decide (i<M.length)
def pg (M:List MPv) (i:Int):MPv:=M.getD i.toNat page0
def wr (v:MPv) (d:List UInt8):MPv:=⟨d,false,v.may++[d],v.ever++[d]⟩
def write (M:List MPv) (i:Int) (d:List UInt8):List MPv:=if inR M i then M.set i.toNat (wr (pg M i) d)else M
def cut (M:List MPv):List MPv:=M.map λv=>{v with op:=true}
def may (M:List MPv) (i:Int) (d:List UInt8):Bool:=inR M i&&(if(pg M i).op then(pg M i).may.contains d else(pg M i).now==d)
end Mv
end Go.Proofs.YtkdlnfdjjifedaaGreat
namespace Go.Proofs.YtkdlnfdjjifedaaGreat
structure Td where
 err:Int
 data:List UInt8
structure Stp where
 fn:Int
 lpn:Int
 data:List UInt8
 n:Int
 keep:Int
 f:Fl
def zd:List UInt8:=Mv.z16
structure Pv where
 L:List Fl
 log:List Td
 Z:Option Fv
 M:Nand
def Fv.setN (Z:Fv) (N:Nand):Fv:={Z with S:={Z.S with N:=N}}
namespace Pv
def nd (P:Pv):Nand:=match P.Z with | some Z=>Z.S.N | none=>P.M
def setN (P:Pv) (N:Nand):Pv:=match P.Z with | some Z=>{P with Z:=some (Z.setN N)} | none=>{P with M:=N}
def run (P:Pv):Pv:={P.setN (flsN P.nd (dueF P.nd.ops P.L))with L:=leftF P.nd.ops P.L}
def mounts (P:Pv):Pv×Int:=
 let N1:=if P.nd.off then P.nd else P.nd.setCut (-1) 0
 let r:=mount N1.onN
 if r.2=0 then({P with Z:=some (Fv.of r.1)},0)else({P with Z:=none,M:=r.1.N},r.2)
def does (P:Pv) (s:Stp):Pv×Td:=
 if s.fn=1 then(match P.Z with | some Z=>({P with Z:=some (Z.read s.lpn).1},⟨(Z.read s.lpn).2.2,(Z.read s.lpn).2.1⟩) | none=>(P,⟨12,zd⟩))
 else if s.fn=2 then(match P.Z with | some Z=>({P with Z:=some (Z.write s.lpn s.data).1},⟨(Z.write s.lpn s.data).2,zd⟩) | none=>(P,⟨12,zd⟩))
 else if s.fn=3 then(match P.Z with | some Z=>({P with Z:=some (Z.trim s.lpn).1},⟨(Z.trim s.lpn).2,zd⟩) | none=>(P,⟨12,zd⟩))
 else if s.fn=4 then(match P.Z with | some Z=>({P with Z:=some Z.flush.1},⟨Z.flush.2,zd⟩) | none=>(P,⟨12,zd⟩))
 else if s.fn=5 then(match P.Z with | some Z=>({P with Z:=some Z.tick.1},⟨Z.tick.2,zd⟩) | none=>(P,⟨12,zd⟩))
 else if s.fn=6 then(P.setN (P.nd.setCut s.n s.keep),⟨0,zd⟩)
 else if s.fn=7 then(P.mounts.1,⟨P.mounts.2,zd⟩)
 else if s.fn=8 then(P.setN (P.nd.fault s.f.kind s.f.x s.f.y s.f.z s.f.n s.f.xx).2,if(P.nd.fault s.f.kind s.f.x s.f.y s.f.z s.f.n s.f.xx).1 then⟨0,zd⟩else⟨1,zd⟩)
 else(P,⟨1,zd⟩)
def step (P:Pv) (s:Stp):Pv×Td:=({(P.run.does s).1 with log:=(P.run.does s).1.log++[(P.run.does s).2]},(P.run.does s).2)
def new (D B Pg:Nat) (l:List Fl):Pv:=⟨isortF cmpF (plF D B Pg l),[],if(mount (Nand.new D B Pg)).2=0 then some (Fv.of (mount (Nand.new D B Pg)).1)else none,(mount (Nand.new D B Pg)).1.N⟩
end Pv
end Go.Proofs.YtkdlnfdjjifedaaGreat
namespace Go.Proofs.YtkdlnfdjjifedaaGreat
open Go Go.RowKit
structure MSl where
 v:MPv
 a1:Option Nat
 c1:Nat
 a2:Option Nat
 c2:Nat
def cellsD (l:List (List UInt8)):List Value:=l.flatMap dataC
def MSl.cells (z:MSl):List Value:=[byC z.v.now 0,byC z.v.now 1,byC z.v.now 2,byC z.v.now 3,byC z.v.now 4,byC z.v.now 5,byC z.v.now 6,byC z.v.now 7,byC z.v.now 8,byC z.v.now 9,byC z.v.now 10,byC z.v.now 11,byC z.v.now 12,byC z.v.now 13,byC z.v.now 14,byC z.v.now 15, .bool z.v.op,slv z.a1 z.v.may.length z.c1,slv z.a2 z.v.ever.length z.c2]
theorem MSl.cells_len (z:MSl):z.cells.length=19:=rfl
def MSl.m1 (z:MSl):Atom:=ownA 30 16 z.a1 z.v.may.length z.c1 (cellsD z.v.may)
def MSl.m2 (z:MSl):Atom:=ownA 30 16 z.a2 z.v.ever.length z.c2 (cellsD z.v.ever)
def MdlP (q g:Nat) (Z:List MSl):List Atom:=[.pt q 171 [.slice (some ⟨g,0,none⟩) Z.length Z.length], .pt g 173 (Z.flatMap MSl.cells), .hp (HP.of (Z.map MSl.m1)), .hp (HP.of (Z.map MSl.m2))]
def Mv.adr (n g:Nat) (i:Int):Option Addr:=if 0<=i/\i<n then some ⟨g,i.toNat*19,none⟩else none
theorem md_at (q g n:Nat) (hn:n<=65536) (i:Int):Fn Tryz.prog 103 [.pointer (some ⟨q,0,none⟩), .int .i64 i] [.pt q 171 [.slice (some ⟨g,0,none⟩) n n]] (λv As=>v= .pointer (Mv.adr n g i)/\As=[.pt q 171 [.slice (some ⟨g,0,none⟩) n n]]):=by
 refine Fn.enter [2,0] Tryz.func103 rfl rfl rfl λX F hX=>?_;refine J.q hX λ_=>?_;refine J.cond rfl (λh1=>?_) (λh1=>?_)
 ·simp only[Bool.false_or,Bool.or_eq_true,decide_eq_true_eq,ge_iff_le]at h1;have ha:Mv.adr n g i=none:=by unfold Mv.adr;rw[if_neg (by omega)]
  refine J.q hX λ_=>?_;refine J.ru hX [1] ?_;rw[ha];exact⟨rfl,rfl⟩
 ·simp only[Bool.false_or,Bool.or_eq_false_iff,decide_eq_false_iff_not,ge_iff_le]at h1;have ha:Mv.adr n g i=some ⟨g,i.toNat*19,none⟩:=by unfold Mv.adr;rw[if_pos (by omega)]
  refine J.q hX λ_=>?_;refine J.ru hX [1] ?_;rw[ha];exact⟨by simp,rfl⟩
def MSl.none0:MSl:=⟨⟨Mv.z16,false,[],[]⟩,none,0,none,0⟩
theorem MSl.cells_zero (m:Nat):(List.replicate m [Value.int .u8 0, .int .u8 0, .int .u8 0, .int .u8 0, .int .u8 0, .int .u8 0, .int .u8 0, .int .u8 0, .int .u8 0, .int .u8 0, .int .u8 0, .int .u8 0, .int .u8 0, .int .u8 0, .int .u8 0, .int .u8 0, .bool false, .slice none 0 0, .slice none 0 0]).flatten=(List.replicate m MSl.none0).flatMap MSl.cells:=by
 induction m with
 | zero=>rfl
 | succ m ih=>rw[List.replicate_succ,List.replicate_succ,List.flatten_cons,List.flatMap_cons,ih];rfl
theorem MSl.flat_len (Z:List MSl):(Z.flatMap MSl.cells).length=19*Z.length:=by
 induction Z with
 | nil=>rfl
 | cons z Z ih=>rw[List.flatMap_cons,List.length_append,ih,MSl.cells_len,List.length_cons];omega
theorem MSl.hps (m:Nat) (h:Hl):Sep [.hp (HP.of ((List.replicate m MSl.none0).map MSl.m1)), .hp (HP.of ((List.replicate m MSl.none0).map MSl.m2))] h:=by
 refine Sep.ofAll λA hA h=>?_;have hx:∀f:MSl->Atom,(∀h,(f MSl.none0).sat h)->(Atom.hp (HP.of ((List.replicate m MSl.none0).map f))).sat h:=λf hf=>by
  exact(Sep.hpOf.2 (Sep.ofAll λA hA h=>by
   rw[List.map_replicate,List.mem_replicate]at hA;rw[hA.2];exact hf h)).get (i:=0) rfl
 simp only[List.mem_cons,List.not_mem_nil,or_false]at hA;rcases hA with rfl | rfl
 ·exact hx MSl.m1 λh=>⟨rfl,rfl,rfl⟩
 ·exact hx MSl.m2 λh=>⟨rfl,rfl,rfl⟩
theorem md_New (n:Int):Fn Tryz.prog 51 [.int .i64 n] [] (λv As=>∃q g Z,v= .pointer (some ⟨q,0,none⟩)/\As=MdlP q g Z/\Z.map (·.v)=Mv.new n):=by
 refine Fn.enter [0] Tryz.func51 rfl rfl rfl λX F hX=>?_;refine J.qn hX 9 λ_=>?_;rw[tb_mm];obtain⟨m,hm⟩:∃m:Nat,min (max n 0) 65536=(m:Int):=⟨(min (max n 0) 65536).toNat,by omega⟩;have hm1:m<=65536:=by omega
 rw[hm];refine J.makeMany hX tk 2 rfl rfl rfl rfl rfl rfl rfl rfl rfl rfl rfl ?_ ?_ (λ_=>rfl) (λ_=>rfl) λg=>⟨trivial,?_⟩
 ·simp only[maxLen];omega
 ·omega
 have hz:(List.replicate m _).flatten=(List.replicate m MSl.none0).flatMap MSl.cells:=MSl.cells_zero m;rw[hz];refine J.q hX λbq=>?_;refine J.turn1 [] rfl (As:=[.hp (HP.of ((List.replicate m MSl.none0).map MSl.m1)), .hp (HP.of ((List.replicate m MSl.none0).map MSl.m2))]) (λh s=>MSl.hps m h) rfl ?_;refine J.q hX λ_=>?_;refine J.lo (α:=(Nat×List MSl)) (λz=>z.1<=m/\z.2.length=m/\z.2.map (·.v)=List.replicate z.1 Mv.page0++List.replicate (m-z.1) MSl.none0.v) (λz=>[⟨16, .int .i64 z.1,0, .tt⟩,⟨15, .int .i64 m,0, .tt⟩,⟨3, .pointer (some ⟨bq 0,0,none⟩),3, .tt⟩]) [1,3,4] (λz=>[.pt g 173 (z.2.flatMap MSl.cells), .hp (HP.of (z.2.map MSl.m1)), .hp (HP.of (z.2.map MSl.m2))]) (λz=>m-z.1) ((0,List.replicate m MSl.none0)) (⟨Nat.zero_le _,List.length_replicate,by simp⟩) rfl ?_ (λ_=>rfl) λz hI=>?_
 ·rfl
 obtain⟨k,Z⟩:=z;dsimp only at hI ⊢;obtain⟨hk,hZl,hZ⟩:=hI;refine J.q hX λ_=>?_;refine J.cond rfl (λh1=>?_) (λh1=>?_)
 ·simp only[decide_eq_true_eq,Int.ofNat_lt]at h1;obtain⟨z,hz⟩:∃z,Z[k]? =some z:=⟨_,List.getElem?_eq_getElem (by omega)⟩;refine J.openAt 3 k rfl rfl (by rw[List.getElem?_map,hz];rfl) rfl ?_;refine J.openAt 4 k rfl rfl (by rw[List.getElem?_map,hz];rfl) rfl ?_;refine J.q hX λ_=>?_;refine J.plan (.take true 0 (.take true 1 (.take true 2 (.take false 3 (.take true 4 (.take true 5 (.take true 6 (.take true 7 (.take false 8 (.take true 9 (.alt false 10 ((.take true 12 (.take true 13 (.alt false 11 ((.of [58,60,64,71])) (.alt false 14 ((.of [46,60,64,71])) .non))))) (.alt false 11 ((.of [42,48,52,58,60,64,71])) .non)))))))))))) [15,16,17] [2] (by rw[hX.hP];kernel_rfl) (by kernel_rfl) ?_;have hoff:∀j,0+(k:Int).toNat*19+j=k*19+j:=λj=>by omega
  have hlt:∀j,j<19->0+(k:Int).toNat*19+j<(Z.flatMap MSl.cells).length:=λj hj=>by
   rw[MSl.flat_len,hoff];have:k*19+19<=19*Z.length:=by omega
   omega
  have hset:∀y:MSl,(Z.set k y)[k]? =some y:=λy=>by rw[List.getElem?_set,if_pos rfl,if_pos (by omega)]
  refine J.join (α:=Nat×Nat) (λ_=>[⟨16, .int .i64 k,0, .tt⟩,⟨15, .int .i64 m,0, .tt⟩,⟨3, .pointer (some ⟨bq 0,0,none⟩),3, .tt⟩]) (λx=>[.hp F, .pt g 173 ((Z.set k ⟨⟨z.v.now,z.v.op,[Mv.z16],[Mv.z16]⟩,some x.1,1,some x.2,1⟩).flatMap MSl.cells), .pt (bq 0) 171 [.slice (some ⟨g,0,none⟩) m m], .hp (HP.of ((Z.map MSl.m1).set k .emp)), .hp (HP.of ((Z.map MSl.m2).set k .emp)),ownA 30 16 (some x.1) 1 1 (cellsD [Mv.z16]),ownA 30 16 (some x.2) 1 1 (cellsD [Mv.z16])]) (λhj=>?_) (λx=>?_)
  ·refine J.q hX λ_=>?_;refine J.alts ?_ ?_
   ·skip
    refine J.makeMany hX tk 8 rfl rfl rfl rfl rfl rfl rfl rfl rfl rfl rfl ?_ ?_ (λ_=>rfl) (λ_=>rfl) λga=>⟨(by first | exact trivial | (repeat' (first | exact trivial | refine⟨rfl,?_⟩))),?_⟩
    ·decide
    ·decide
    refine J.closeOwn (e:=30) (size:=16) (n:=1) (cap:=1) (xs:=cellsD [Mv.z16]) 7 rfl rfl rfl (Nat.le_refl _) (by decide) rfl rfl rfl ?_;refine J.q hX λ_=>?_;refine J.alts ?_ ?_
    ·skip
     refine J.makeMany hX tk 9 rfl rfl rfl rfl rfl rfl rfl rfl rfl rfl rfl ?_ ?_ (λ_=>rfl) (λ_=>rfl) λgb=>⟨(by first | exact trivial | (repeat' (first | exact trivial | refine⟨rfl,?_⟩))),?_⟩
     ·decide
     ·decide
     refine J.closeOwn (e:=30) (size:=16) (n:=1) (cap:=1) (xs:=cellsD [Mv.z16]) 8 rfl rfl rfl (Nat.le_refl _) (by decide) rfl rfl rfl ?_;refine J.store1 hX tk 1 rfl rfl rfl rfl rfl rfl rfl rfl rfl rfl rfl rfl rfl ?_ ((Z.set k ⟨⟨z.v.now,z.v.op,[Mv.z16],z.v.ever⟩,some ga,1,z.a2,z.c2⟩).flatMap MSl.cells) ?_ rfl (λ_=>rfl) ⟨(by first | exact trivial | (repeat' (first | exact trivial | refine⟨rfl,?_⟩))),?_⟩
     ·exact hlt 17 (by omega)
     ·rw[hoff 17];exact flat_setc MSl.cells 19 MSl.cells_len 17 _ hz (by omega) rfl
     refine J.qn hX 2 λ_=>?_;refine J.store1 hX tk 1 rfl rfl rfl rfl rfl rfl rfl rfl rfl rfl rfl rfl rfl ?_ ((Z.set k ⟨⟨z.v.now,z.v.op,[Mv.z16],[Mv.z16]⟩,some ga,1,some gb,1⟩).flatMap MSl.cells) ?_ rfl (λ_=>rfl) ⟨(by first | exact trivial | (repeat' (first | exact trivial | refine⟨rfl,?_⟩))),?_⟩
     ·rw[MSl.flat_len,List.length_set,<- MSl.flat_len];exact hlt 18 (by omega)
     ·rw[hoff 18];exact(flat_setc MSl.cells 19 MSl.cells_len 18 (y:=⟨⟨z.v.now,z.v.op,[Mv.z16],[Mv.z16]⟩,some ga,1,some gb,1⟩) _ (hset ⟨⟨z.v.now,z.v.op,[Mv.z16],z.v.ever⟩,some ga,1,z.a2,z.c2⟩) (by omega) rfl).trans (by rw[List.set_set])
     exact J.goto [0,1,2,3,4,7,8] (hj (ga,gb)) ⟨rfl,rfl,rfl,trivial⟩ rfl rfl
    ·skip
     refine J.store1 hX tk 1 rfl rfl rfl rfl rfl rfl rfl rfl rfl rfl rfl rfl rfl ?_ ((Z.set k ⟨⟨z.v.now,z.v.op,[Mv.z16],z.v.ever⟩,some ga,1,z.a2,z.c2⟩).flatMap MSl.cells) ?_ rfl (λ_=>rfl) ⟨(by first | exact trivial | (repeat' (first | exact trivial | refine⟨rfl,?_⟩))),?_⟩
     ·exact hlt 17 (by omega)
     ·rw[hoff 17];exact flat_setc MSl.cells 19 MSl.cells_len 17 _ hz (by omega) rfl
     refine J.makeMany hX tk 9 rfl rfl rfl rfl rfl rfl rfl rfl rfl rfl rfl ?_ ?_ (λ_=>rfl) (λ_=>rfl) λgb=>⟨(by first | exact trivial | (repeat' (first | exact trivial | refine⟨rfl,?_⟩))),?_⟩
     ·decide
     ·decide
     refine J.closeOwn (e:=30) (size:=16) (n:=1) (cap:=1) (xs:=cellsD [Mv.z16]) 8 rfl rfl rfl (Nat.le_refl _) (by decide) rfl rfl rfl ?_;refine J.qn hX 2 λ_=>?_;refine J.store1 hX tk 1 rfl rfl rfl rfl rfl rfl rfl rfl rfl rfl rfl rfl rfl ?_ ((Z.set k ⟨⟨z.v.now,z.v.op,[Mv.z16],[Mv.z16]⟩,some ga,1,some gb,1⟩).flatMap MSl.cells) ?_ rfl (λ_=>rfl) ⟨(by first | exact trivial | (repeat' (first | exact trivial | refine⟨rfl,?_⟩))),?_⟩
     ·rw[MSl.flat_len,List.length_set,<- MSl.flat_len];exact hlt 18 (by omega)
     ·rw[hoff 18];exact(flat_setc MSl.cells 19 MSl.cells_len 18 (y:=⟨⟨z.v.now,z.v.op,[Mv.z16],[Mv.z16]⟩,some ga,1,some gb,1⟩) _ (hset ⟨⟨z.v.now,z.v.op,[Mv.z16],z.v.ever⟩,some ga,1,z.a2,z.c2⟩) (by omega) rfl).trans (by rw[List.set_set])
     exact J.goto [0,1,2,3,4,7,8] (hj (ga,gb)) ⟨rfl,rfl,rfl,trivial⟩ rfl rfl
   ·skip
    refine J.makeMany hX tk 8 rfl rfl rfl rfl rfl rfl rfl rfl rfl rfl rfl ?_ ?_ (λ_=>rfl) (λ_=>rfl) λgb=>⟨(by first | exact trivial | (repeat' (first | exact trivial | refine⟨rfl,?_⟩))),?_⟩
    ·decide
    ·decide
    refine J.closeOwn (e:=30) (size:=16) (n:=1) (cap:=1) (xs:=cellsD [Mv.z16]) 7 rfl rfl rfl (Nat.le_refl _) (by decide) rfl rfl rfl ?_;refine J.makeMany hX tk 9 rfl rfl rfl rfl rfl rfl rfl rfl rfl rfl rfl ?_ ?_ (λ_=>rfl) (λ_=>rfl) λga=>⟨(by first | exact trivial | (repeat' (first | exact trivial | refine⟨rfl,?_⟩))),?_⟩
    ·decide
    ·decide
    refine J.closeOwn (e:=30) (size:=16) (n:=1) (cap:=1) (xs:=cellsD [Mv.z16]) 8 rfl rfl rfl (Nat.le_refl _) (by decide) rfl rfl rfl ?_;refine J.qn hX 2 λ_=>?_;refine J.store1 hX tk 1 rfl rfl rfl rfl rfl rfl rfl rfl rfl rfl rfl rfl rfl ?_ ((Z.set k ⟨⟨z.v.now,z.v.op,[Mv.z16],z.v.ever⟩,some ga,1,z.a2,z.c2⟩).flatMap MSl.cells) ?_ rfl (λ_=>rfl) ⟨(by first | exact trivial | (repeat' (first | exact trivial | refine⟨rfl,?_⟩))),?_⟩
    ·exact hlt 17 (by omega)
    ·rw[hoff 17];exact flat_setc MSl.cells 19 MSl.cells_len 17 _ hz (by omega) rfl
    refine J.qn hX 2 λ_=>?_;refine J.store1 hX tk 1 rfl rfl rfl rfl rfl rfl rfl rfl rfl rfl rfl rfl rfl ?_ ((Z.set k ⟨⟨z.v.now,z.v.op,[Mv.z16],[Mv.z16]⟩,some ga,1,some gb,1⟩).flatMap MSl.cells) ?_ rfl (λ_=>rfl) ⟨(by first | exact trivial | (repeat' (first | exact trivial | refine⟨rfl,?_⟩))),?_⟩
    ·rw[MSl.flat_len,List.length_set,<- MSl.flat_len];exact hlt 18 (by omega)
    ·rw[hoff 18];exact(flat_setc MSl.cells 19 MSl.cells_len 18 (y:=⟨⟨z.v.now,z.v.op,[Mv.z16],[Mv.z16]⟩,some ga,1,some gb,1⟩) _ (hset ⟨⟨z.v.now,z.v.op,[Mv.z16],z.v.ever⟩,some ga,1,z.a2,z.c2⟩) (by omega) rfl).trans (by rw[List.set_set])
    exact J.goto [0,1,2,3,4,8,7] (hj (ga,gb)) ⟨rfl,rfl,rfl,trivial⟩ rfl rfl
  obtain⟨ga,gb⟩:=x;dsimp only;obtain⟨y,hy⟩:∃y:MSl,y=⟨⟨z.v.now,z.v.op,[Mv.z16],[Mv.z16]⟩,some ga,1,some gb,1⟩:=⟨_,rfl⟩;rw[<- hy,show ownA 30 16 (some ga) 1 1 (cellsD [Mv.z16])=y.m1 from by rw[hy];rfl,show ownA 30 16 (some gb) 1 1 (cellsD [Mv.z16])=y.m2 from by rw[hy];rfl];refine J.closeAt (A:=y.m1) 3 5 k rfl rfl rfl ?_;refine J.closeAt (A:=y.m2) 4 6 k rfl rfl rfl ?_;rw[<- List.map_set,<- List.map_set];have hzv:z.v=MSl.none0.v:=by
   have h2:(Z.map (·.v))[k]? =some z.v:=by rw[List.getElem?_map,hz];rfl
   rw[hZ,List.getElem?_append_right (by simp),List.length_replicate,List.getElem?_replicate,if_pos (by omega)]at h2;injection h2 with h2;exact h2.symm
  have hyv:y.v=Mv.page0:=by rw[hy];show(⟨z.v.now,z.v.op,[Mv.z16],[Mv.z16]⟩:MPv)=_;rw[hzv];rfl
  have hZ2:(Z.set k y).map (·.v)=List.replicate (k+1) Mv.page0++List.replicate (m-(k+1)) MSl.none0.v:=by
   rw[List.map_set,hZ,hyv,show m-k=(m-(k+1))+1 from by omega,List.replicate_succ (n:=m-(k+1)),List.set_append_right _ _ (by simp),List.length_replicate,Nat.sub_self,List.set_cons_zero,List.replicate_succ' (n:=k),List.append_assoc];rfl
  refine J.q hX λ_=>?_;refine J.nS ((k+1,Z.set k y)) (⟨by dsimp only;omega,by dsimp only;rw[List.length_set];exact hZl,hZ2⟩) (by dsimp only;omega) [0,1,2,3,4] rfl rfl
 simp only[decide_eq_false_iff_not,Int.ofNat_lt]at h1;obtain rfl:k=m:=by omega
 refine J.q hX λ_=>?_;refine J.ru hX [2,1,3,4] ?_;refine⟨bq 0,g,Z,rfl,?_,?_⟩
 ·rw[<- hZl];rfl
 ·rw[hZ,Nat.sub_self];unfold Mv.new;rw[hm];simp
structure Pad where
 f:Nat
 p:Nat
 t:Nat
 l:Nat
 d:Nat
 fp:Nat
 a:Option (Nat×Nat)
 c:Nat
 a2:Option Nat
 c2:Nat
def tdC (t:Td):List Value:=[.int .i64 t.err,byC t.data 0,byC t.data 1,byC t.data 2,byC t.data 3,byC t.data 4,byC t.data 5,byC t.data 6,byC t.data 7,byC t.data 8,byC t.data 9,byC t.data 10,byC t.data 11,byC t.data 12,byC t.data 13,byC t.data 14,byC t.data 15]
def tdV (t:Td):Value:= .agg (tdC t).toArray
def cellsTd (l:List Td):List Value:=l.flatMap tdC
def flP (o:Option Fv) (f:Nat):Value:=match o with | some _=> .pointer (some ⟨f,0,none⟩) | none=> .pointer none
def devP (n:Nat) (A:Pad) (P:Pv):List Atom:=match P.Z with | some Z=>FvP A.f A.p n A.t A.l A.d Z | none=>[NandA n P.M]
def PlayP (q n:Nat) (A:Pad) (P:Pv):List Atom:=[.pt q 103 [.pointer (some ⟨n,0,none⟩),flP P.Z A.f, .pointer (some ⟨A.fp,0,none⟩),slv A.a2 P.log.length A.c2], .pt A.fp 235 [.slice (oad2 A.a) P.L.length A.c],rdA (oad2 A.a) 7 P.L.length (cellsFl P.L),ownA 62 17 A.a2 P.log.length A.c2 (cellsTd P.log)]++devP n A P
structure Pad.Ok (A:Pad) (P:Pv):Prop where
 z:A.a=none->A.c=0
 c:P.L.length<=A.c
theorem py_Nand (q n:Nat) (r:Value) (r2 r3:Value):Fn Tryz.prog 23 [.pointer (some ⟨q,0,none⟩)] [.pt q 103 [.pointer (some ⟨n,0,none⟩),r,r2,r3]] (λv As=>v= .pointer (some ⟨n,0,none⟩)/\As=[.pt q 103 [.pointer (some ⟨n,0,none⟩),r,r2,r3]]):=by
 refine Fn.enter [2] Tryz.func23 rfl rfl rfl λX F hX=>?_;refine J.q hX λ_=>?_;refine J.cF ?_;refine J.q hX λ_=>?_;exact J.ru hX [1] ⟨rfl,rfl⟩
theorem py_Ftl (q n:Nat) (o:Option Fv) (f:Nat) (r2 r3:Value):Fn Tryz.prog 44 [.pointer (some ⟨q,0,none⟩)] [.pt q 103 [.pointer (some ⟨n,0,none⟩),flP o f,r2,r3]] (λv As=>v=flP o f/\As=[.pt q 103 [.pointer (some ⟨n,0,none⟩),flP o f,r2,r3]]):=by
 refine Fn.enter [2] Tryz.func44 rfl rfl rfl λX F hX=>?_;refine J.q hX λ_=>?_;refine J.cF ?_;cases o with
 | none=>
  refine J.q hX λ_=>?_;exact J.ru hX [1] ⟨rfl,rfl⟩
 | some Z=>
  refine J.q hX λ_=>?_;exact J.ru hX [1] ⟨rfl,rfl⟩
theorem oad_map (a:Option Nat):oad a=oad2 (a.map λg=>(g,0)):=by cases a<;>rfl
theorem Gd_newB (d b p:Nat) (h:geoMay d b p=true) (k:Nat) (hk:k<4611686018427387904):(Nand.new d b p).Gd k 0:=by
 have g:=Nand.Gd.new d b p h 0 (by omega);exact⟨g.ok,by show(0:Int)+k<_;omega,by show(0:Int)+k<_;omega,g.nodup,g.few⟩
theorem py_New (D B Pg:Nat) (hg:geoMay D B Pg=true) (A:Atom) (ad:Option Addr) (n c:Nat) (l:List Fl) (hA:Rd A ad 7 n (cellsFl l)) (hl:l.length=n) (hn:n<=15):Fn Tryz.prog 38 [.agg #[.int .i64 D, .int .i64 B, .int .i64 Pg], .slice ad n c] [A] (λv As=>∃q nn A',v= .pointer (some ⟨q,0,none⟩)/\A'.Ok (Pv.new D B Pg l)/\As=A::PlayP q nn A' (Pv.new D B Pg l)):=by
 have hbd:(3<=D/\D<=6)/\(8<=B/\B<=16)/\(2<=Pg/\Pg<=8):=by simp[geoMay]at hg;omega
 refine Fn.enter [0,0] Tryz.func38 rfl rfl rfl λX F hX=>?_;refine J.q hX λ_=>?_;refine J.cb hX (n_New D B Pg hg) [] ?_;rintro v As ⟨nn,rfl,rfl⟩;refine⟨_,rfl,trivial,?_⟩;refine J.q hX λ_=>?_;refine J.cF ?_;have hG:(Nand.new D B Pg).Gd (Dv.costK+0) 0:=Gd_newB D B Pg hg _ (by decide);refine J.q hX λ_=>?_;refine J.cb hX (ft_Mount nn (Nand.new D B Pg) 0 0 hG (by decide) rfl) [3] ?_;have hlen:(isortF cmpF (plF D B Pg l)).length=(plF D B Pg l).length:=(isortF_perm _ _).length_eq;rintro v As (⟨he,f,p,t,ll,d,rfl,rfl⟩ | ⟨he,rfl,rfl⟩)
 ·refine⟨_,rfl,trivial,?_⟩;refine J.q hX λ_=>?_;refine J.cb hX (u_New D B Pg (by omega) (by omega) (by omega) A ad n c l hA hl hn) [1] ?_;rintro v As ⟨fp,a,c',rfl,rfl⟩;refine⟨_,rfl,trivial,?_⟩;refine J.know (λh' s=>ownP_cap (show ownP _ _ a (plF D B Pg l).length c' _ _ from s.get (i:=10) rfl)) λhcap=>?_;refine J.know (λh' s=>ownP_nil (show ownP _ _ a (plF D B Pg l).length c' _ _ from s.get (i:=10) rfl)) λhnil=>?_;have hsl:∀n c,slv a n c= .slice (oad2 (a.map λg=>(g,0))) n c:=λn c=>by cases a<;>rfl
  rw[hsl];refine J.turn1 [10] rfl (As:=[rdA (oad2 (a.map λg=>(g,0))) 7 (plF D B Pg l).length (cellsFl (isortF cmpF (plF D B Pg l)))]) (λh s=>Sep.one (by have:=own_rd 34 7 a (plF D B Pg l).length c' (cellsFl (isortF cmpF (plF D B Pg l))) _ (s.get (i:=0) rfl);rw[oad_map]at this;exact this)) rfl ?_;refine J.turn1 [] rfl (As:=[ownA 62 17 none 0 0 (cellsTd [])]) (λh s=>Sep.one ⟨rfl,rfl,rfl⟩) rfl ?_;refine J.q hX λbq=>?_;refine J.ru hX [1,12,9,10,11,3,4,5,6,7,8] ?_;refine⟨bq 0,nn,⟨f,p,t,ll,d,fp,a.map λg=>(g,0),c',none,0⟩,rfl,⟨λe=>hnil (by cases a with | none=>rfl | some g=>cases e),by show(isortF cmpF (plF D B Pg l)).length<=_;rw[hlen];exact hcap⟩,?_⟩;unfold PlayP devP;show _=A::([.pt (bq 0) 103 [.pointer (some ⟨nn,0,none⟩),flP (if(mount (Nand.new D B Pg)).2=0 then some (Fv.of (mount (Nand.new D B Pg)).1)else none) _,_,_], .pt fp _ [.slice _ (isortF cmpF (plF D B Pg l)).length _],rdA _ 7 (isortF cmpF (plF D B Pg l)).length _,_]++(match(if(mount (Nand.new D B Pg)).2=0 then some (Fv.of (mount (Nand.new D B Pg)).1)else none)with | some Z=>_ | none=>_));rw[if_pos he,hlen];rfl
 ·refine⟨_,rfl,trivial,?_⟩;refine J.q hX λ_=>?_;refine J.cb hX (u_New D B Pg (by omega) (by omega) (by omega) A ad n c l hA hl hn) [1] ?_;rintro v As ⟨fp,a,c',rfl,rfl⟩;refine⟨_,rfl,trivial,?_⟩;refine J.know (λh' s=>ownP_cap (show ownP _ _ a (plF D B Pg l).length c' _ _ from s.get (i:=5) rfl)) λhcap=>?_;refine J.know (λh' s=>ownP_nil (show ownP _ _ a (plF D B Pg l).length c' _ _ from s.get (i:=5) rfl)) λhnil=>?_;have hsl:∀n c,slv a n c= .slice (oad2 (a.map λg=>(g,0))) n c:=λn c=>by cases a<;>rfl
  rw[hsl];refine J.turn1 [5] rfl (As:=[rdA (oad2 (a.map λg=>(g,0))) 7 (plF D B Pg l).length (cellsFl (isortF cmpF (plF D B Pg l)))]) (λh s=>Sep.one (by have:=own_rd 34 7 a (plF D B Pg l).length c' (cellsFl (isortF cmpF (plF D B Pg l))) _ (s.get (i:=0) rfl);rw[oad_map]at this;exact this)) rfl ?_;refine J.turn1 [] rfl (As:=[ownA 62 17 none 0 0 (cellsTd [])]) (λh s=>Sep.one ⟨rfl,rfl,rfl⟩) rfl ?_;refine J.q hX λbq=>?_;refine J.ru hX [1,7,4,5,6,3] ?_;refine⟨bq 0,nn,⟨0,0,0,0,0,fp,a.map λg=>(g,0),c',none,0⟩,rfl,⟨λe=>hnil (by cases a with | none=>rfl | some g=>cases e),by show(isortF cmpF (plF D B Pg l)).length<=_;rw[hlen];exact hcap⟩,?_⟩;unfold PlayP devP;show _=A::([.pt (bq 0) 103 [.pointer (some ⟨nn,0,none⟩),flP (if(mount (Nand.new D B Pg)).2=0 then some (Fv.of (mount (Nand.new D B Pg)).1)else none) _,_,_], .pt fp _ [.slice _ (isortF cmpF (plF D B Pg l)).length _],rdA _ 7 (isortF cmpF (plF D B Pg l)).length _,_]++(match(if(mount (Nand.new D B Pg)).2=0 then some (Fv.of (mount (Nand.new D B Pg)).1)else none)with | some Z=>_ | none=>_));rw[if_neg he,hlen];rfl
def stC (s:Stp):List Value:=[.int .i64 s.fn, .int .i64 s.lpn,byC s.data 0,byC s.data 1,byC s.data 2,byC s.data 3,byC s.data 4,byC s.data 5,byC s.data 6,byC s.data 7,byC s.data 8,byC s.data 9,byC s.data 10,byC s.data 11,byC s.data 12,byC s.data 13,byC s.data 14,byC s.data 15, .int .i64 s.n, .int .i64 s.keep, .int .i64 s.f.at_, .int .i64 s.f.kind, .int .i64 s.f.x, .int .i64 s.f.y, .int .i64 s.f.z, .int .i64 s.f.n, .int .i64 s.f.xx]
def stV (s:Stp):Value:= .agg (stC s).toArray
def PlQ (q n:Nat) (o:Option Fv) (f:Nat) (r2 r3:Value):Atom:= .pt q 103 [.pointer (some ⟨n,0,none⟩),flP o f,r2,r3]
theorem py_mounts (q n:Nat) (A:Pad) (P:Pv) (Z:Fv) (hZ:P.Z=some Z) (r2 r3:Value) (k m:Nat) (hG:Z.S.N.Gd (Dv.costK+k) m) (hm:m<=12):Fn Tryz.prog 151 [.pointer (some ⟨q,0,none⟩)] (PlQ q n P.Z A.f r2 r3::devP n A P) (λv As=>∃A':Pad,v= .int .i64 P.mounts.2/\(A'.fp=A.fp/\A'.a=A.a/\A'.c=A.c/\A'.a2=A.a2/\A'.c2=A.c2)/\((∃Y,P.mounts.1={P with Z:=some Y}/\As=PlQ q n (some Y) A'.f r2 r3::FvP A'.f A'.p n A'.t A'.l A'.d Y)\/∃M,P.mounts.1={P with Z:=none,M:=M}/\As=[PlQ q n none A'.f r2 r3,NandA n M])):=by
 have hnd:P.nd=Z.S.N:=by unfold Pv.nd;rw[hZ]
 have hms:P.mounts=if(mount ((if Z.S.N.off then Z.S.N else Z.S.N.setCut (-1) 0).onN)).2=0 then({P with Z:=some (Fv.of (mount ((if Z.S.N.off then Z.S.N else Z.S.N.setCut (-1) 0).onN)).1)},0)else({P with Z:=none,M:=(mount ((if Z.S.N.off then Z.S.N else Z.S.N.setCut (-1) 0).onN)).1.N},(mount ((if Z.S.N.off then Z.S.N else Z.S.N.setCut (-1) 0).onN)).2):=by unfold Pv.mounts;rw[hnd]
 rw[show devP n A P=FvP A.f A.p n A.t A.l A.d Z from by unfold devP;rw[hZ],hZ];refine Fn.enter [2] Tryz.func151 rfl rfl rfl λX F hX=>?_;refine J.q hX λ_=>?_;refine J.cb hX (n_Power n Z.S.N) [4] ?_;refine cpq ⟨_,rfl,trivial,?_⟩;refine J.q hX λ_=>?_;refine J.cond rfl (λh1=>?_) (λh1=>?_)
 ·have hoff:Z.S.N.off=false:=by simpa using h1
  have e:(if Z.S.N.off=true then Z.S.N else Z.S.N.setCut (-1) 0)=Z.S.N.setCut (-1) 0:=if_neg (by rw[hoff];decide);rw[e]at hms;have hG2:(Z.S.N.setCut (-1) 0).onN.Gd (Dv.costK+k) m:=(hG.cut (-1) 0 (by decide) (by decide)).on;refine J.q hX λ_=>?_;refine J.cb hX (n_Cut n Z.S.N (-1) 0) [4] ?_;refine cpq ⟨_,rfl,trivial,?_⟩;refine J.q hX λ_=>?_;refine J.cb hX (n_On n (Z.S.N.setCut (-1) 0)) [4] ?_;refine cpq ⟨_,rfl,trivial,?_⟩;refine J.q hX λ_=>?_;refine J.cb hX (ft_Mount n ((Z.S.N.setCut (-1) 0)).onN k m hG2 hm rfl) [4] ?_;rintro v As (⟨he,f,p,t,ll,d,rfl,rfl⟩ | ⟨he,rfl,rfl⟩)
  ·refine⟨_,rfl,trivial,?_⟩;rw[if_pos he]at hms;refine J.q hX λ_=>?_;refine J.ru hX [1,4,8,9,10,11,12] ?_;exact⟨⟨f,p,t,ll,d,A.fp,A.a,A.c,A.a2,A.c2⟩,by rw[hms],⟨rfl,rfl,rfl,rfl,rfl⟩, .inl ⟨_,by rw[hms],rfl⟩⟩
  ·refine⟨_,rfl,trivial,?_⟩;rw[if_neg he]at hms;refine J.q hX λ_=>?_;refine J.ru hX [1,4] ?_;exact⟨A,by rw[hms],⟨rfl,rfl,rfl,rfl,rfl⟩, .inr ⟨_,by rw[hms],rfl⟩⟩
 ·have hoff:Z.S.N.off=true:=by simpa using h1
  have e:(if Z.S.N.off=true then Z.S.N else Z.S.N.setCut (-1) 0)=Z.S.N:=if_pos hoff;rw[e]at hms;have hG2:Z.S.N.onN.Gd (Dv.costK+k) m:=hG.on;refine J.q hX λ_=>?_;refine J.cb hX (n_On n Z.S.N) [4] ?_;refine cpq ⟨_,rfl,trivial,?_⟩;refine J.q hX λ_=>?_;refine J.cb hX (ft_Mount n (Z.S.N).onN k m hG2 hm rfl) [4] ?_;rintro v As (⟨he,f,p,t,ll,d,rfl,rfl⟩ | ⟨he,rfl,rfl⟩)
  ·refine⟨_,rfl,trivial,?_⟩;rw[if_pos he]at hms;refine J.q hX λ_=>?_;refine J.ru hX [1,4,8,9,10,11,12] ?_;exact⟨⟨f,p,t,ll,d,A.fp,A.a,A.c,A.a2,A.c2⟩,by rw[hms],⟨rfl,rfl,rfl,rfl,rfl⟩, .inl ⟨_,by rw[hms],rfl⟩⟩
  ·refine⟨_,rfl,trivial,?_⟩;rw[if_neg he]at hms;refine J.q hX λ_=>?_;refine J.ru hX [1,4] ?_;exact⟨A,by rw[hms],⟨rfl,rfl,rfl,rfl,rfl⟩, .inr ⟨_,by rw[hms],rfl⟩⟩
theorem py_does (q n:Nat) (A:Pad) (P:Pv) (Z:Fv) (hZ:P.Z=some Z) (r2 r3:Value) (k m:Nat) (hO:Z.Ok (Fv.cW*200+(Dv.costS+(Dv.costK+(1+k)))) m) (hm:m<=12) (s:Stp) (hs:s.data.length=16):Fn Tryz.prog 98 [.pointer (some ⟨q,0,none⟩),stV s] (PlQ q n P.Z A.f r2 r3::devP n A P) (λv As=>∃A':Pad,v=tdV (P.does s).2/\(A'.fp=A.fp/\A'.a=A.a/\A'.c=A.c/\A'.a2=A.a2/\A'.c2=A.c2)/\((∃Y,(P.does s).1={P with Z:=some Y}/\As=PlQ q n (some Y) A'.f r2 r3::FvP A'.f A'.p n A'.t A'.l A'.d Y)\/∃M,(P.does s).1={P with Z:=none,M:=M}/\As=[PlQ q n none A'.f r2 r3,NandA n M])):=by
 have hnd:P.nd=Z.S.N:=by unfold Pv.nd;rw[hZ]
 have hdv:∀Y,devP n A {P with Z:=some Y}=FvP A.f A.p n A.t A.l A.d Y:=λY=>rfl;have hs1:∀b,s.fn=b->True:=λ_ _=>trivial;rw[show devP n A P=FvP A.f A.p n A.t A.l A.d Z from by unfold devP;rw[hZ],hZ];refine Fn.enter [2,0] Tryz.func98 rfl rfl rfl λX F hX=>?_;refine J.q hX λ_=>?_;refine J.cond rfl (λh1=>?_) (λh1=>?_)
 ·have e1:s.fn=1:=by simpa using h1
  have hd:P.does s=({P with Z:=some (Z.read s.lpn).1},⟨(Z.read s.lpn).2.2,(Z.read s.lpn).2.1⟩):=by unfold Pv.does;rw[if_pos e1,hZ]
  refine J.q hX λ_=>?_;refine J.plan (.take true 0 (.take true 1 (.take true 2 (.take false 3 (.take true 4 (.take false 5 (.alt false 6 ((.of [28,32,36,42,46,48])) (.alt false 10 ((.of [26,28,32,36,46,48])) .non)))))))) [12] [1,8] (by rw[hX.hP];kernel_rfl) (by kernel_rfl) ?_;refine J.qn hX 7 λ_=>?_;refine J.alts ?_ ?_
  ·skip
   refine J.q hX λ_=>?_;refine J.cb hX (ft_Read A.f A.p n A.t A.l A.d Z _ m hO s.lpn) [2,3,4,5,6,7] ?_;refine cpq ⟨_,rfl,(by first | exact trivial | (repeat' (first | exact trivial | refine⟨rfl,?_⟩))),?_⟩;refine J.q hX λ_=>?_;refine J.ru hX [1,2,3,4,5,6,7] ?_;refine⟨A,?_,⟨rfl,rfl,rfl,rfl,rfl⟩, .inl ⟨_,by rw[hd],rfl⟩⟩;rw[hd];rfl
  ·skip
   refine J.qn hX 1 λ_=>?_;refine J.q hX λ_=>?_;refine J.cb hX (ft_Read A.f A.p n A.t A.l A.d Z _ m hO s.lpn) [2,3,4,5,6,7] ?_;refine cpq ⟨_,rfl,(by first | exact trivial | (repeat' (first | exact trivial | refine⟨rfl,?_⟩))),?_⟩;refine J.q hX λ_=>?_;refine J.ru hX [1,2,3,4,5,6,7] ?_;refine⟨A,?_,⟨rfl,rfl,rfl,rfl,rfl⟩, .inl ⟨_,by rw[hd],rfl⟩⟩;rw[hd];rfl
 have e1:s.fn≠1:=by simpa using h1
 refine J.q hX λ_=>?_;refine J.cond rfl (λh2=>?_) (λh2=>?_)
 ·have e2:s.fn=2:=by simpa using h2
  have hd:P.does s=({P with Z:=some (Z.write s.lpn s.data).1},⟨(Z.write s.lpn s.data).2,zd⟩):=by unfold Pv.does;rw[if_neg e1,if_pos e2,hZ]
  refine J.q hX λ_=>?_;refine J.plan (.of [0,4,8,13,16,21,24,29,34,36,43]) [10] [1,8] (by rw[hX.hP];kernel_rfl) (by kernel_rfl) ?_;refine J.q hX λ_=>?_;refine J.ca hX (by kernel_rfl) (ft_Write A.f A.p n A.t A.l A.d Z _ m (hO.less (k':=Fv.cW+(1+k)) (by omega)) hm s.lpn s.data hs) [2,3,4,5,6,7] 0 rfl rfl rfl rfl rfl rfl (λ_=>rfl) ?_;refine cpq ⟨_,rfl,(by first | exact trivial | (repeat' (first | exact trivial | refine⟨rfl,?_⟩))),?_⟩;refine J.q hX λ_=>?_;refine J.ru hX [1,2,3,4,5,6,7] ?_;refine⟨A,?_,⟨rfl,rfl,rfl,rfl,rfl⟩, .inl ⟨_,by rw[hd],rfl⟩⟩;rw[hd];rfl
 have e2:s.fn≠2:=by simpa using h2
 refine J.q hX λ_=>?_;refine J.cond rfl (λh3=>?_) (λh3=>?_)
 ·have e3:s.fn=3:=by simpa using h3
  have hd:P.does s=({P with Z:=some (Z.trim s.lpn).1},⟨(Z.trim s.lpn).2,zd⟩):=by unfold Pv.does;rw[if_neg e1,if_neg e2,if_pos e3,hZ]
  refine J.q hX λ_=>?_;refine J.plan (.of [0,4,8,13,16,21,26,28,35]) [8] [1,8] (by rw[hX.hP];kernel_rfl) (by kernel_rfl) ?_;refine J.q hX λ_=>?_;refine J.ca hX (by kernel_rfl) (ft_Trim A.f A.p n A.t A.l A.d Z _ m (hO.less (k':=Fv.cW+(1+k)) (by omega)) hm s.lpn) [2,3,4,5,6,7] 0 rfl rfl rfl rfl rfl rfl (λ_=>rfl) ?_;refine cpq ⟨_,rfl,(by first | exact trivial | (repeat' (first | exact trivial | refine⟨rfl,?_⟩))),?_⟩;refine J.q hX λ_=>?_;refine J.ru hX [1,2,3,4,5,6,7] ?_;refine⟨A,?_,⟨rfl,rfl,rfl,rfl,rfl⟩, .inl ⟨_,by rw[hd],rfl⟩⟩;rw[hd];rfl
 have e3:s.fn≠3:=by simpa using h3
 refine J.q hX λ_=>?_;refine J.cond rfl (λh4=>?_) (λh4=>?_)
 ·have e4:s.fn=4:=by simpa using h4
  have hd:P.does s=({P with Z:=some Z.flush.1},⟨Z.flush.2,zd⟩):=by unfold Pv.does;rw[if_neg e1,if_neg e2,if_neg e3,if_pos e4,hZ]
  refine J.q hX λ_=>?_;refine J.ca hX (by kernel_rfl) (ft_Flush A.f A.p n A.t A.l A.d Z _ m (hO.less (k':=Fv.cW*200+k) (by omega)) hm) [2,3,4,5,6,7] 0 rfl rfl rfl rfl rfl rfl (λ_=>rfl) ?_;refine cpq ⟨_,rfl,trivial,?_⟩;refine J.q hX λ_=>?_;refine J.ru hX [1,2,3,4,5,6,7] ?_;refine⟨A,?_,⟨rfl,rfl,rfl,rfl,rfl⟩, .inl ⟨_,by rw[hd],rfl⟩⟩;rw[hd];rfl
 have e4:s.fn≠4:=by simpa using h4
 refine J.q hX λ_=>?_;refine J.cond rfl (λh5=>?_) (λh5=>?_)
 ·have e5:s.fn=5:=by simpa using h5
  have hd:P.does s=({P with Z:=some Z.tick.1},⟨Z.tick.2,zd⟩):=by unfold Pv.does;rw[if_neg e1,if_neg e2,if_neg e3,if_neg e4,if_pos e5,hZ]
  refine J.q hX λ_=>?_;refine J.ca hX (by kernel_rfl) (ft_Tick A.f A.p n A.t A.l A.d Z _ m (hO.less (k':=Dv.costS+k) (by omega)) hm) [2,3,4,5,6,7] 0 rfl rfl rfl rfl rfl rfl (λ_=>rfl) ?_;refine cpq ⟨_,rfl,trivial,?_⟩;refine J.q hX λ_=>?_;refine J.ru hX [1,2,3,4,5,6,7] ?_;refine⟨A,?_,⟨rfl,rfl,rfl,rfl,rfl⟩, .inl ⟨_,by rw[hd],rfl⟩⟩;rw[hd];rfl
 have e5:s.fn≠5:=by simpa using h5
 refine J.q hX λ_=>?_;refine J.cond rfl (λh6=>?_) (λh6=>?_)
 ·have e6:s.fn=6:=by simpa using h6
  have hd:P.does s=(P.setN (Z.S.N.setCut s.n s.keep),⟨0,zd⟩):=by unfold Pv.does;rw[if_neg e1,if_neg e2,if_neg e3,if_neg e4,if_neg e5,if_pos e6,hnd]
  have hsn:P.setN (Z.S.N.setCut s.n s.keep)={P with Z:=some (Z.setN (Z.S.N.setCut s.n s.keep))}:=by unfold Pv.setN;rw[hZ]
  rw[hsn]at hd;refine J.q hX λ_=>?_;refine J.plan (.of [0,4,8,13,16,21,24,29,34]) [] [1,8] (by rw[hX.hP];kernel_rfl) (by kernel_rfl) ?_;refine J.q hX λ_=>?_;refine J.cb hX (n_Cut n Z.S.N s.n s.keep) [4] ?_;refine cpq ⟨_,rfl,(by first | exact trivial | (repeat' (first | exact trivial | refine⟨rfl,?_⟩))),?_⟩;refine J.q hX λ_=>?_;refine J.ru hX [1,2,3,4,5,6,7] ?_;refine⟨A,?_,⟨rfl,rfl,rfl,rfl,rfl⟩, .inl ⟨_,by rw[hd],rfl⟩⟩;rw[hd];rfl
 have e6:s.fn≠6:=by simpa using h6
 refine J.q hX λ_=>?_;refine J.cond rfl (λh7=>?_) (λh7=>?_)
 ·have e7:s.fn=7:=by simpa using h7
  have hd:P.does s=(P.mounts.1,⟨P.mounts.2,zd⟩):=by unfold Pv.does;rw[if_neg e1,if_neg e2,if_neg e3,if_neg e4,if_neg e5,if_neg e6,if_pos e7]
  have hmm:=py_mounts q n A P Z hZ r2 r3 _ m (hO.dv.gd.less (k':=Dv.costK+(1+k)) (by omega) (Nat.le_refl m)) hm;rw[show devP n A P=FvP A.f A.p n A.t A.l A.d Z from by unfold devP;rw[hZ],hZ]at hmm;refine J.q hX λ_=>?_;refine J.cb hX (hmm) [1,2,3,4,5,6,7] ?_;rintro v As ⟨A',rfl,hA',(⟨Y,hY,rfl⟩ | ⟨M,hY,rfl⟩)⟩
  ·refine⟨_,rfl,trivial,?_⟩;refine J.q hX λ_=>?_;refine J.ru hX [1,2,3,4,5,6,7] ?_;refine⟨A',?_,hA', .inl ⟨Y,by rw[hd,hY],rfl⟩⟩;rw[hd];rfl
  ·refine⟨_,rfl,trivial,?_⟩;refine J.q hX λ_=>?_;refine J.ru hX [1,2] ?_;refine⟨A',?_,hA', .inr ⟨M,by rw[hd,hY],rfl⟩⟩;rw[hd];rfl
 have e7:s.fn≠7:=by simpa using h7
 refine J.q hX λ_=>?_;refine J.cond rfl (λh8=>?_) (λh8=>?_)
 ·have e8:s.fn=8:=by simpa using h8
  obtain⟨Q,hQ⟩:∃Q,Q=Z.S.N.fault s.f.kind s.f.x s.f.y s.f.z s.f.n s.f.xx:=⟨_,rfl⟩;have hd:P.does s=({P with Z:=some (Z.setN Q.2)},if Q.1 then⟨0,zd⟩else⟨1,zd⟩):=by unfold Pv.does;rw[if_neg e1,if_neg e2,if_neg e3,if_neg e4,if_neg e5,if_neg e6,if_neg e7,if_pos e8,hnd,<- hQ];unfold Pv.setN;rw[hZ]
  refine J.q hX λ_=>?_;refine J.plan (.of [0,4,8,13,16,21,26]) [] [1,8] (by rw[hX.hP];kernel_rfl) (by kernel_rfl) ?_;refine J.q hX λ_=>?_;refine J.cb hX (n_Fault n Z.S.N hO.dv.gd.ok s.f.at_ s.f.kind s.f.x s.f.y s.f.z s.f.n s.f.xx) [4] ?_;refine cpq ⟨_,rfl,(by first | exact trivial | (repeat' (first | exact trivial | refine⟨rfl,?_⟩))),?_⟩;rw[<- hQ];refine J.q hX λ_=>?_;refine J.cond rfl (λh9=>?_) (λh9=>?_)
  ·rw[if_pos h9]at hd;refine J.q hX λ_=>?_;refine J.ru hX [1,2,3,4,5,6,7] ?_;refine⟨A,?_,⟨rfl,rfl,rfl,rfl,rfl⟩, .inl ⟨_,by rw[hd],rfl⟩⟩;rw[hd];rfl
  ·rw[if_neg (by rw[h9];decide)]at hd;refine J.q hX λ_=>?_;refine J.ru hX [1,2,3,4,5,6,7] ?_;refine⟨A,?_,⟨rfl,rfl,rfl,rfl,rfl⟩, .inl ⟨_,by rw[hd],rfl⟩⟩;rw[hd];rfl
 have e8:s.fn≠8:=by simpa using h8
 have hd:P.does s=(P,⟨1,zd⟩):=by unfold Pv.does;rw[if_neg e1,if_neg e2,if_neg e3,if_neg e4,if_neg e5,if_neg e6,if_neg e7,if_neg e8]
 refine J.q hX λ_=>?_;refine J.ru hX [1,2,3,4,5,6,7] ?_;refine⟨A,?_,⟨rfl,rfl,rfl,rfl,rfl⟩, .inl ⟨Z,?_,rfl⟩⟩
 ·rw[hd];rfl
 ·rw[hd];show P={P with Z:=some Z};rw[<- hZ]
theorem Dv.Ok.setN {S:Dv} {k m m':Nat} {N:Nand} (h:S.Ok k m) (hl:S.N.Like N) (hG:N.Gd k m'):({S with N:=N}:Dv).Ok k m':=⟨hG,h.t.like hl,h.T,h.sl,h.row,h.next⟩
theorem Fv.Ok.setN {Z:Fv} {k m m':Nat} {N:Nand} (h:Z.Ok k m) (hl:Z.S.N.Like N) (hG:N.Gd k m'):(Z.setN N).Ok k m':=⟨h.dv.setN hl hG,h.dat,λe he=>by have:=h.rng e he;unfold Fv.lg at this ⊢;rw[show(Z.setN N).S.N=N from rfl,lgN_like hl];exact this,h.nd,h.nx⟩
theorem like_fls (N:Nand):∀(l:List Fl),N.Like (flsN N l)
 | []=>Nand.Like.refl N
 | f::l=>(Nand.like_fault N f.kind f.x f.y f.z f.n f.xx).trans (like_fls (flN N f) l)
theorem cellsTd_snoc (l:List Td) (x:Td):cellsTd l++tdC x=cellsTd (l++[x]):=by unfold cellsTd;rw[List.flatMap_append];simp
theorem py_Step (q n:Nat) (A:Pad) (P:Pv) (hA:A.Ok P) (Z:Fv) (hZ:P.Z=some Z) (k m:Nat) (hO:Z.Ok (Fv.cW*200+(Dv.costS+(Dv.costK+(1+k)))) m) (hm:m+(dueF Z.S.N.ops P.L).length<=12) (hL:P.L.length<=1000) (hlg:P.log.length<=1000) (s:Stp) (hs:s.data.length=16):Fn Tryz.prog 39 [.pointer (some ⟨q,0,none⟩),stV s] (PlayP q n A P) (λv As=>∃A':Pad,v=tdV (P.step s).2/\A'.Ok (P.step s).1/\As=PlayP q n A' (P.step s).1):=by
 have hnd:P.nd=Z.S.N:=by unfold Pv.nd;rw[hZ]
 obtain⟨D,hD⟩:∃D,dueF Z.S.N.ops P.L=D:=⟨_,rfl⟩;obtain⟨R,hR⟩:∃R,leftF Z.S.N.ops P.L=R:=⟨_,rfl⟩;rw[hD]at hm;have hrun:P.run=⟨R,P.log,some (Z.setN (flsN Z.S.N D)),P.M⟩:=by unfold Pv.run;rw[hnd,hD,hR];unfold Pv.setN;rw[hZ]
 have hO2:(Z.setN (flsN Z.S.N D)).Ok (Fv.cW*200+(Dv.costS+(Dv.costK+(1+k)))) (m+D.length):=hO.setN (like_fls _ _) (flsN_Gd hO.dv.gd D);have hst:P.step s=({(P.run.does s).1 with log:=(P.run.does s).1.log++[(P.run.does s).2]},(P.run.does s).2):=rfl;unfold PlayP;rw[show devP n A P=FvP A.f A.p n A.t A.l A.d Z from by unfold devP;rw[hZ],hZ];refine Fn.enter [2,0] Tryz.func39 rfl rfl rfl λX F hX=>?_;refine J.q hX λ_=>?_;refine J.cF ?_;refine J.q hX λ_=>?_;refine J.plan (.of [0,4,8,13,16,20,24,29,34]) [] [1] (by rw[hX.hP];kernel_rfl) (by kernel_rfl) ?_;refine J.q hX λ_=>?_;refine J.cb hX (u_Run A.fp n A.a A.c P.L hA.z hA.c hL Z.S.N _ m hO.dv.gd) [2,3,7] ?_;rintro v As ⟨a',c',hz',hc',rfl,rfl⟩;refine⟨_,rfl,(by first | exact trivial | (repeat' (first | exact trivial | refine⟨rfl,?_⟩))),?_⟩;rw[hR]at hc' ⊢;rw[hD];have hdo:=py_does q n A ⟨R,P.log,some (Z.setN (flsN Z.S.N D)),P.M⟩ (Z.setN (flsN Z.S.N D)) rfl (.pointer (some ⟨A.fp,0,none⟩)) (slv A.a2 P.log.length A.c2) k (m+D.length) hO2 hm s hs;rw[<- hrun]at hdo;rw[hrun]at hdo;obtain⟨W,hW⟩:∃W,(⟨R,P.log,some (Z.setN (flsN Z.S.N D)),P.M⟩:Pv).does s=W:=⟨_,rfl⟩;rw[hrun,hW]at hst;rw[hW]at hdo;obtain⟨Wp,wt⟩:=W;dsimp only at hdo hst;refine J.q hX λ_=>?_;refine J.cb hX (hdo) [1,5,6,7,8,9,10] ?_;rintro v As ⟨A',rfl,⟨q1,q2,q3,q4,q5⟩,(⟨Y,hY,rfl⟩ | ⟨M,hY,rfl⟩)⟩
 ·refine⟨_,rfl,trivial,?_⟩;refine J.q hX λ_=>?_;refine J.plan (.of [0,4,8,12,17,21,26,30,32,36,43]) [8,9,10] [1,13] (by rw[hX.hP];kernel_rfl) (by kernel_rfl) ?_;refine J.q hX λ_=>?_;refine J.append hX tk 4 14 0 rfl rfl rfl rfl rfl rfl rfl rfl rfl rfl rfl rfl rfl rfl rfl rfl ?_ ?_ (λ_=>rfl) λa3 c3=>⟨_,(congrArg (λz=>lset _ 4 (ownA _ _ _ _ _ z)) (cellsTd_snoc P.log wt)).trans rfl,(by first | exact trivial | (repeat' (first | exact trivial | refine⟨rfl,?_⟩))),?_⟩
  ·simp only[maxLen];omega
  ·omega
  refine J.q hX λ_=>?_;refine J.ru hX [1,2,3,4,5,6,7,8,9,10] ?_;refine⟨⟨A'.f,A'.p,A'.t,A'.l,A'.d,A.fp,a',c',a3,c3⟩,?_,?_,?_⟩
  ·rw[hst];rfl
  ·rw[hst,hY];exact⟨hz',hc'⟩
  ·rw[hst,hY];dsimp only;rw[List.length_append];rfl
 ·refine⟨_,rfl,trivial,?_⟩;refine J.q hX λ_=>?_;refine J.plan (.of [0,4,8,12,17,21,26,30,32,36,43]) [8,9,10] [1,13] (by rw[hX.hP];kernel_rfl) (by kernel_rfl) ?_;refine J.q hX λ_=>?_;refine J.append hX tk 4 14 0 rfl rfl rfl rfl rfl rfl rfl rfl rfl rfl rfl rfl rfl rfl rfl rfl ?_ ?_ (λ_=>rfl) λa3 c3=>⟨_,(congrArg (λz=>lset _ 4 (ownA _ _ _ _ _ z)) (cellsTd_snoc P.log wt)).trans rfl,(by first | exact trivial | (repeat' (first | exact trivial | refine⟨rfl,?_⟩))),?_⟩
  ·simp only[maxLen];omega
  ·omega
  refine J.q hX λ_=>?_;refine J.ru hX [1,2,3,4,5] ?_;refine⟨⟨A'.f,A'.p,A'.t,A'.l,A'.d,A.fp,a',c',a3,c3⟩,?_,?_,?_⟩
  ·rw[hst];rfl
  ·rw[hst,hY];exact⟨hz',hc'⟩
  ·rw[hst,hY];dsimp only;rw[List.length_append];rfl
theorem cellsTd_one (l:List Td):∀u∈cellsTd l,u.oneCell'=true:=by
 intro u hu;simp only[cellsTd,List.mem_flatMap]at hu;obtain⟨s,_,hu⟩:=hu;simp only[tdC,List.mem_cons,List.not_mem_nil,or_false]at hu;rcases hu with rfl | rfl | rfl | rfl | rfl | rfl | rfl | rfl | rfl | rfl | rfl | rfl | rfl | rfl | rfl | rfl | rfl<;>rfl
theorem x_CloneTd (a:Option Nat) (n cap:Nat) (l:List Td) (hl:l.length=n) (hn:n<=1000000):Fn Tryz.prog 99 [slv a n cap] [ownA 62 17 a n cap (cellsTd l)]
  (λv As=>∃a' c',v=slv a' n c'/\As=[ownA 62 17 a n cap (cellsTd l),ownA 62 17 a' n c' (cellsTd l)]):=by
 refine Fn.enter [0] Tryz.func99 rfl rfl rfl λX F hX=>?_;cases a with
 | none=>
  refine J.know (λh' s=>(s.get (i:=1) rfl).2) λhn0=>?_;obtain⟨rfl,rfl⟩:=hn0;have:l=[]:=List.eq_nil_of_length_eq_zero hl;subst this;refine J.q hX λ_=>?_;refine J.cT ?_;refine J.turn1 [] rfl (As:=[ownA 62 17 none 0 0 (cellsTd [])]) (λh s=>Sep.one ⟨rfl,rfl,rfl⟩) rfl ?_;refine J.q hX λ_=>?_;refine J.ru hX [1,2] ?_;exact⟨none,0,rfl,rfl⟩
 | some g=>
  refine J.q hX λ_=>?_;refine J.cF ?_;refine J.qn hX 5 λbb=>?_;refine J.closeOwn (e:=62) (size:=17) (n:=0) (cap:=0) (xs:=[]) 2 rfl rfl rfl (Nat.le_refl _) (Nat.zero_le _) rfl rfl rfl ?_;refine J.q hX λ_=>?_;refine J.appendR hX tk (a:=some (bb 0)) (n:=0) (cap:=0) (xs:=[]) (oo:=0) (Ay:=ownA 62 17 (some g) n cap (cellsTd l)) 2 1 0 rfl rfl rfl rfl rfl rfl rfl rfl rfl rfl (own_rd _ _ (some g) _ _ _) rfl rfl rfl rfl (cellsTd_one l) ?_ ?_ (λ_=>rfl) λa' c'=>⟨_,rfl,trivial,?_⟩
  ·simp only[maxLen];omega
  ·omega
  rw[Nat.zero_add n,List.nil_append];refine J.q hX λ_=>?_;refine J.ru hX [1,2] ?_;exact⟨a',c',rfl,rfl⟩
theorem py_Log (q n:Nat) (A:Pad) (P:Pv) (hl:P.log.length<=1000):Fn Tryz.prog 40 [.pointer (some ⟨q,0,none⟩)] [PlQ q n P.Z A.f (.pointer (some ⟨A.fp,0,none⟩)) (slv A.a2 P.log.length A.c2),ownA 62 17 A.a2 P.log.length A.c2 (cellsTd P.log)]
  (λv As=>∃a' c',v=slv a' P.log.length c'/\As=[PlQ q n P.Z A.f (.pointer (some ⟨A.fp,0,none⟩)) (slv A.a2 P.log.length A.c2),ownA 62 17 A.a2 P.log.length A.c2 (cellsTd P.log),ownA 62 17 a' P.log.length c' (cellsTd P.log)]):=by
 refine Fn.enter [2] Tryz.func40 rfl rfl rfl λX F hX=>?_;refine J.q hX λ_=>?_;refine J.cF ?_;refine J.q hX λ_=>?_;refine J.cb hX (x_CloneTd A.a2 P.log.length A.c2 P.log rfl (by omega)) [2] ?_;rintro v As ⟨a',c',rfl,rfl⟩;refine⟨_,rfl,trivial,?_⟩;refine J.q hX λ_=>?_;refine J.ru hX [1,2,3] ?_;exact⟨a',c',rfl,rfl⟩
def boOps (d b p:Int):Int:=if geoMay d b p then 12*d*b*p+40 else 0
def boTicks (d b p:Int):Int:=if geoMay d b p then(lgN d.toNat b.toNat p.toNat:Int)+2*b else 0
theorem bo_Ops (d b p:Int):Fn Tryz.prog 62 [.agg #[.int .i64 d, .int .i64 b, .int .i64 p]] [] (λv As=>v= .int .i64 (boOps d b p)/\As=[]):=by
 refine Fn.enter [0] Tryz.func62 rfl rfl rfl λX F hX=>?_;refine J.q hX λ_=>?_;refine J.cb hX (f_May d b p) [] ?_;refine cpq ⟨_,rfl,trivial,?_⟩;refine J.q hX λ_=>?_;refine J.cond rfl (λh1=>?_) (λh1=>?_)
 ·have hg:geoMay d b p=false:=by simpa using h1
  refine J.q hX λ_=>?_;refine J.ru hX [] ?_;exact⟨by unfold boOps;rw[hg];rfl,rfl⟩
 ·have hg:geoMay d b p=true:=by simpa using h1
  have hbd:(3<=d/\d<=6)/\(8<=b/\b<=16)/\(2<=p/\p<=8):=by simp[geoMay]at hg;omega
  have m1:0<=12*d*b/\12*d*b<=1152:=by
   have h1:=Int.mul_nonneg (show 0<=12*d by omega) (show 0<=b by omega);have h2:=Int.mul_le_mul (show 12*d<=72 by omega) (show b<=16 by omega) (by omega) (by omega);omega
  have m2:0<=12*d*b*p/\12*d*b*p<=9216:=by
   have h1:=Int.mul_nonneg m1.1 (show 0<=p by omega);have h2:=Int.mul_le_mul m1.2 (show p<=8 by omega) (by omega) (by omega);omega
  refine J.q hX λ_=>?_;refine J.ru hX [] ?_;exact⟨by unfold boOps;rw[hg];rfl,rfl⟩
theorem bo_bd (d b p:Int):0<=boOps d b p/\boOps d b p<=9256:=by
 unfold boOps
 by_cases hg:geoMay d b p=true
 ·rw[if_pos hg];have hbd:(3<=d/\d<=6)/\(8<=b/\b<=16)/\(2<=p/\p<=8):=by simp[geoMay]at hg;omega
  have m1:0<=12*d*b/\12*d*b<=1152:=by
   have h1:=Int.mul_nonneg (show 0<=12*d by omega) (show 0<=b by omega);have h2:=Int.mul_le_mul (show 12*d<=72 by omega) (show b<=16 by omega) (by omega) (by omega);omega
  have h1:=Int.mul_nonneg m1.1 (show 0<=p by omega);have h2:=Int.mul_le_mul m1.2 (show p<=8 by omega) (by omega) (by omega);omega
 ·rw[if_neg hg];omega
theorem bo_Mount (d b p:Int):Fn Tryz.prog 63 [.agg #[.int .i64 d, .int .i64 b, .int .i64 p]] [] (λv As=>v= .int .i64 (2*boOps d b p)/\As=[]):=by
 refine Fn.enter [0] Tryz.func63 rfl rfl rfl λX F hX=>?_;refine J.q hX λ_=>?_;refine J.cb hX (bo_Ops d b p) [] ?_;refine cpq ⟨_,rfl,trivial,?_⟩;have:=bo_bd d b p;refine J.q hX λ_=>?_;exact J.ru hX [] ⟨rfl,rfl⟩
end Go.Proofs.YtkdlnfdjjifedaaGreat
