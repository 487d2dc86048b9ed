/- Texts J123 to J140 of this proof, in one file. -/
import Derived.Test.YtmfpdakaeagdpaaGreatW01
import Derived.Test.YtmfpdakaeagdpaaGreatW02
import Derived.Test.YtmfpdakaeagdpaaGreatW03
import Derived.Test.YtmfpdakaeagdpaaGreatW04
import Derived.Test.YtmfpdakaeagdpaaGreatW05
import Derived.Test.YtmfpdakaeagdpaaGreatW06
import Derived.Test.YtmfpdakaeagdpaaGreatW07
import Derived.Test.YtmfpdakaeagdpaaGreatW08
import Derived.Test.YtmfpdakaeagdpaaGreatW09
import Derived.Test.YtmfpdakaeagdpaaGreatW10
import Derived.Test.YtmfpdakaeagdpaaGreatW11
import Derived.Test.YtmfpdakaeagdpaaGreatW12
import Derived.Test.YtmfpdakaeagdpaaGreatW13
import Derived.Test.YtmfpdakaeagdpaaGreatW14
import Derived.Test.YtmfpdakaeagdpaaGreatW15
import Derived.Test.YtmfpdakaeagdpaaGreatW16
import Derived.Test.YtmfpdakaeagdpaaGreatW17
import Derived.Test.YtmfpdakaeagdpaaGreatW18
import Derived.Test.YtmfpdakaeagdpaaGreatW19
import Derived.Test.YtmfpdakaeagdpaaGreatW20
import Derived.Test.YtmfpdakaeagdpaaGreatW21
import Derived.Test.YtmfpdakaeagdpaaGreatW22
import Derived.Test.YtmfpdakaeagdpaaGreatW23
import Derived.Test.YtmfpdakaeagdpaaGreatW24
import Derived.Test.YtmfpdakaeagdpaaGreatW25
import Derived.Test.YtmfpdakaeagdpaaGreatW26
import Derived.Test.YtmfpdakaeagdpaaGreatW27
import Derived.Test.YtmfpdakaeagdpaaGreatX27n01
import Derived.Test.YtmfpdakaeagdpaaGreatX27n02
import Derived.Below
import Derived.BigFrame
import Derived.BigQuiet
import Derived.Deep.CutBlock
import Derived.Deep.CutRange
import Derived.Deep.LoopGhost
import Derived.Deep.Quiet
import Derived.Deep.RegionHeld3
import Derived.DeepKeys4
import Derived.KernelRfl
import Derived.Laws.BitsAllLaws
import Derived.Laws.EntriesVeiled
import Derived.Lib.Hide
import Derived.Lib.SliceRun
import Derived.LoopIn
import Derived.LoopNIn
import Derived.Maps.AppendAt
import Derived.Maps.OwnIn
import Derived.Maps.OwnSet
import Derived.OneCell
import Derived.OrdersHeld
import Derived.OrdersIn
import Derived.OwnWalkIn
import Derived.RangeFuncBound
import Derived.RangeFuncCalls
import Derived.RangeFuncLeaves
import Derived.RangeFuncNested
import Derived.Shelf.Abstract
import Derived.Still
import Derived.TacticsIn
import Derived.TacticsInMore
import Derived.Test.YtmfpdakaeagdpaaGreatProg
import Derived.WalkKit
import Derived.WalkLawsBesides
import Derived.WalkSpells
import Derived.WideKeyPair
namespace Go.Proofs.YtmfpdakaeagdpaaGreat
set_option maxRecDepth 100000
set_option maxHeartbeats 16000000
section
theorem lat_sqE {n:Nat} {cs:List Int} (L:Latin n cs):sqE 0 (n:Int) (n:Int) cs=0:=by
 have h1:sqB (n:Int) (n:Int) cs=true:=by
  unfold sqB
  rw[L.len,← Int.natCast_mul]
  simp only[Bool.and_eq_true,decide_eq_true_eq]
  exact ⟨⟨⟨trivial,by have:=L.pos;omega⟩,by have:=L.le;omega⟩,trivial⟩
 unfold sqE
 rw[if_pos h1]
 unfold symE
 rw[if_neg,if_neg]
 ·rw[Int.toNat_natCast,L.once];decide
 ·rw[Bool.not_eq_true,List.any_eq_false]
  intro x hx
  have:=L.num x hx
  simp only[Bool.or_eq_true,decide_eq_true_eq,Int.toNat_natCast]
  omega
theorem Latin.lt {n:Nat} {cs:List Int} (L:Latin n cs) {i j:Nat} (hi:i<n) (hj:j<n):Go.Proofs.YtmfpdakaeagdpaaGreat.nat cs (i*n+j)<n:=(L.nat (gcell_lt hi hj)).2
theorem Latin.rinj {n:Nat} {cs:List Int} (L:Latin n cs) {i j k:Nat} (hi:i<n) (hj:j<n) (hk:k<n) (h:Go.Proofs.YtmfpdakaeagdpaaGreat.nat cs (i*n+j)=Go.Proofs.YtmfpdakaeagdpaaGreat.nat cs (i*n+k)):j=k:=by
 by_cases e:j=k
 ·exact e
 ·have h1:=L.nat (gcell_lt hi hj)
  have h2:=L.nat (gcell_lt hi hk)
  have h3:=once_iff.1 L.once (i*n+j) (i*n+k) (by rw[L.len];exact gcell_lt hi hj) (by rw[L.len];exact gcell_lt hi hk) (by omega) (by unfold lineB;rw[(gcell_div hj).1,(gcell_div hk).1];simp) (by rw[h1.1,h2.1,h])
  omega
theorem Latin.cinj {n:Nat} {cs:List Int} (L:Latin n cs) {i j k:Nat} (hi:i<n) (hj:j<n) (hk:k<n) (h:Go.Proofs.YtmfpdakaeagdpaaGreat.nat cs (i*n+j)=Go.Proofs.YtmfpdakaeagdpaaGreat.nat cs (k*n+j)):i=k:=by
 by_cases e:i=k
 ·exact e
 ·have h1:=L.nat (gcell_lt hi hj)
  have h2:=L.nat (gcell_lt hk hj)
  have h3:=once_iff.1 L.once (i*n+j) (k*n+j) (by rw[L.len];exact gcell_lt hi hj) (by rw[L.len];exact gcell_lt hk hj) (fun e2=>e (by have:=congrArg (· / n) e2;simp only[(gcell_div hj).1] at this;exact this)) (by unfold lineB;rw[(gcell_div hj).2,(gcell_div hj).2];simp) (by rw[h1.1,h2.1,h])
  omega
theorem Latin.ron {n:Nat} {cs:List Int} (L:Latin n cs) {i x:Nat} (hi:i<n) (hx:x<n):∃j,j<n∧Go.Proofs.YtmfpdakaeagdpaaGreat.nat cs (i*n+j)=x:=by
 obtain ⟨j,hj,e⟩:=L.row hi (x:=(x:Int)) (by omega) (by omega)
 exact ⟨j,hj,by unfold Go.Proofs.YtmfpdakaeagdpaaGreat.nat;rw[e];exact Int.toNat_natCast x⟩
theorem inj_onto {n:Nat} {f:Nat→Nat} (hf:∀i,i<n→f i<n) (hi:∀i j,i<n→j<n→f i=f j→i=j) {x:Nat} (hx:x<n):∃i,i<n∧f i=x:=by
 have hm:=full_mem (n:=n) (l:=(List.range n).map fun i=>((f i:Nat):Int)) (by
  rw[List.nodup_iff_pairwise_ne,List.pairwise_map]
  refine (List.pairwise_lt_range (n:=n)).imp_of_mem (fun {a b} ha hb hab e=>?_)
  rw[List.mem_range] at ha hb
  have:=hi a b ha hb (by omega)
  omega) (by rw[List.length_map,List.length_range]) (fun y hy=>by
  obtain ⟨j,hj,e⟩:=List.mem_map.1 hy
  have:=hf j (List.mem_range.1 hj)
  omega) (x:=(x:Int)) (by omega) (by omega)
 obtain ⟨i,h1,e⟩:=List.mem_map.1 hm
 exact ⟨i,List.mem_range.1 h1,by omega⟩
theorem Latin.con {n:Nat} {cs:List Int} (L:Latin n cs) {j x:Nat} (hj:j<n) (hx:x<n):∃i,i<n∧Go.Proofs.YtmfpdakaeagdpaaGreat.nat cs (i*n+j)=x :=
 inj_onto (f:=fun i=>Go.Proofs.YtmfpdakaeagdpaaGreat.nat cs (i*n+j)) (fun _ hi=>L.lt hi hj) (fun _ _ hi hk h=>L.cinj hi hj hk h) hx
theorem redu_at {x:Int} {n:Nat} {cs:List Int} (L:Latin n cs) {z i j:Nat} (hz:z<n) (h0:nat cs z=0) (hi:i<n) (hj:j<n):nat (reduL x n cs) (nat cs (i*n+z)*n+nat cs j)=nat cs (i*n+j):=by
 have h1:=iso_latin (x:=x) L sameL_perm L.rowZ sameL_perm
 have hpos:=L.pos
 have hrz:∀j,j<n→nat (Go.Proofs.YtmfpdakaeagdpaaGreat.rowZ n cs) j=nat cs j:=fun j hj=>by
  unfold nat Go.Proofs.YtmfpdakaeagdpaaGreat.rowZ
  rw[List.getElem?_take_of_lt hj]
 have hrl:∀j,j<n→nat cs j<n:=fun j hj=>by have:=L.lt hpos hj;rwa [Nat.zero_mul,Nat.zero_add] at this
 have hl1:∀i j,i<n→j<n→nat (isoL x n (sameL n) (Go.Proofs.YtmfpdakaeagdpaaGreat.rowZ n cs) (sameL n) cs) (i*n+nat cs j)=nat cs (i*n+j):=fun i j hi hj=>by
  have h2:=iso_get (x:=x) (names:=sameL n) (cs:=cs) sameL_perm L.rowZ hi hj
  rw[(sameL_get hi).2,hrz j hj,(sameL_get (L.lt hi hj)).1] at h2
  unfold nat at h2 ⊢
  rw[h2];exact Int.toNat_natCast _
 have hcz:∀i,i<n→nat (Go.Proofs.YtmfpdakaeagdpaaGreat.colZ n (isoL x n (sameL n) (Go.Proofs.YtmfpdakaeagdpaaGreat.rowZ n cs) (sameL n) cs)) i=nat cs (i*n+z):=fun i hi=>by
  have h2:=hl1 i z hi hz
  rw[h0,Nat.add_zero] at h2
  rw[← h2]
  unfold nat Go.Proofs.YtmfpdakaeagdpaaGreat.colZ
  rw[List.getElem?_map,List.getElem?_range hi]
  rfl
 have h3:=iso_get (x:=x) (names:=sameL n) (cs:=isoL x n (sameL n) (Go.Proofs.YtmfpdakaeagdpaaGreat.rowZ n cs) (sameL n) cs) h1.colZ sameL_perm hi (hrl j hj)
 rw[hcz i hi,(sameL_get (hrl j hj)).2,hl1 i j hi hj,(sameL_get (L.lt hi hj)).1] at h3
 unfold nat at h3 ⊢
 unfold reduL
 rw[h3];exact Int.toNat_natCast _
theorem kGrp_iff {n:Nat} {cs:List Int} (hn:1≤n):kGrp n cs=true↔∀x y z,x<n→y<n→z<n→nat (reduL (-1) n cs) (nat (reduL (-1) n cs) (x*n+y)*n+z)=nat (reduL (-1) n cs) (x*n+nat (reduL (-1) n cs) (y*n+z)):=by
 unfold kGrp
 rw[List.all_eq_true]
 constructor
 ·intro h x y z hx hy hz
  have hxy:=gcell_lt hx hy
  have h1:=h ((x*n+y)*n+z) (List.mem_range.2 (by
   have:=Nat.mul_le_mul_right n (show x*n+y+1≤n*n by omega)
   rw[Nat.add_mul,Nat.one_mul] at this
   omega))
  rw[(gcell_div hz).1,(gcell_div hz).2,(gcell_div hy).1,(gcell_div hy).2,beq_iff_eq] at h1
  exact h1
 ·intro h k hk
  rw[List.mem_range] at hk
  have h1:k / n<n*n:=Nat.div_lt_of_lt_mul (by rw[Nat.mul_comm n (n*n)];exact hk)
  have h2:k / n / n<n:=Nat.div_lt_of_lt_mul h1
  have:=h (k / n / n) (k / n % n) (k % n) h2 (Nat.mod_lt _ (by omega)) (Nat.mod_lt _ (by omega))
  rw[beq_iff_eq]
  exact this
def proC (N M:Nat) (cs ds:List Int):List Int:=madeTo (N*M) (proS N M cs ds) (N*M*(N*M))
theorem proC_len (N M:Nat) (cs ds:List Int):(proC N M cs ds).length=N*M*(N*M):=madeTo_len _ _ _
theorem two_lt {N M a b:Nat} (ha:a<N) (hb:b<M):M*a+b<N*M:=by
 have:=Nat.mul_le_mul_left M (show a+1≤N by omega)
 rw[Nat.mul_add,Nat.mul_one,Nat.mul_comm M N] at this
 omega
theorem two_div {M a b:Nat} (hb:b<M):(M*a+b) / M=a∧(M*a+b) % M=b:=by
 rw[Nat.mul_comm];exact gcell_div hb
theorem two_inj {M a b a' b':Nat} (hb:b<M) (hb':b'<M) (h:M*a+b=M*a'+b'):a=a'∧b=b':=by
 have h1:=two_div (a:=a) hb
 have h2:=two_div (a:=a') hb'
 rw[h] at h1
 exact ⟨by omega,by omega⟩
theorem pro_at {N M:Nat} {cs ds:List Int} (L:Latin N cs) (D:Latin M ds) {i j:Nat} (hi:i<N*M) (hj:j<N*M):nat (proC N M cs ds) (i*(N*M)+j)=M*nat cs (i / M*N+j / M)+nat ds (i % M*M+j % M):=by
 have hM:=D.pos
 have i1:i / M<N:=Nat.div_lt_of_lt_mul (by rw[Nat.mul_comm M N];exact hi)
 have j1:j / M<N:=Nat.div_lt_of_lt_mul (by rw[Nat.mul_comm M N];exact hj)
 have i2:i % M<M:=Nat.mod_lt _ hM
 have j2:j % M<M:=Nat.mod_lt _ hM
 unfold nat proC madeTo
 rw[List.getElem?_map,List.getElem?_range (gcell_lt hi hj),Option.map_some,Option.getD_some,(gcell_div hj).1,(gcell_div hj).2]
 unfold proS
 rw[(L.nat (gcell_lt i1 j1)).1,(D.nat (gcell_lt i2 j2)).1,← Int.natCast_mul,← Int.natCast_add,Int.toNat_natCast,Int.toNat_natCast,Int.toNat_natCast]
theorem pro_two {N M:Nat} {cs ds:List Int} (L:Latin N cs) (D:Latin M ds) {i1 i2 j1 j2:Nat} (h1:i1<N) (h2:i2<M) (h3:j1<N) (h4:j2<M):nat (proC N M cs ds) ((M*i1+i2)*(N*M)+(M*j1+j2))=M*nat cs (i1*N+j1)+nat ds (i2*M+j2):=by
 rw[pro_at L D (two_lt h1 h2) (two_lt h3 h4),(two_div h2).1,(two_div h2).2,(two_div h4).1,(two_div h4).2]
theorem two_of {N M i:Nat} (hM:1≤M) (hi:i<N*M):∃a b,a<N∧b<M∧i=M*a+b :=
 ⟨i / M,i % M,Nat.div_lt_of_lt_mul (by rw[Nat.mul_comm M N];exact hi),Nat.mod_lt _ hM,(Nat.div_add_mod i M).symm⟩
theorem pro_latin {N M:Nat} {cs ds:List Int} (L:Latin N cs) (D:Latin M ds) (h16:N*M≤16):Latin (N*M) (proC N M cs ds):=by
 have hM:=D.pos
 have hpos:1≤N*M:=Nat.mul_pos L.pos D.pos
 have hnum:∀c,c<N*M*(N*M)→(proC N M cs ds)[c]?.getD 0=(nat (proC N M cs ds) c:Int)∧nat (proC N M cs ds) c<N*M:=fun c hc=>by
  obtain ⟨hi,hj,e⟩:=cell_parts hc
  obtain ⟨i1,i2,a1,a2,e1⟩:=two_of hM hi
  obtain ⟨j1,j2,b1,b2,e2⟩:=two_of hM hj
  have h1:nat (proC N M cs ds) c=M*nat cs (i1*N+j1)+nat ds (i2*M+j2):=by
   rw[e,e1,e2];exact pro_two L D a1 a2 b1 b2
  refine ⟨?_,by rw[h1];exact two_lt (L.lt a1 b1) (D.lt a2 b2)⟩
  have h2:0≤(proC N M cs ds)[c]?.getD 0:=by
   unfold proC madeTo
   rw[List.getElem?_map,List.getElem?_range hc,Option.map_some,Option.getD_some]
   unfold proS
   have e3:c / (N*M) / M<N:=Nat.div_lt_of_lt_mul (by rw[Nat.mul_comm M N];exact hi)
   have e4:c % (N*M) / M<N:=Nat.div_lt_of_lt_mul (by rw[Nat.mul_comm M N];exact hj)
   rw[(L.nat (gcell_lt e3 e4)).1,(D.nat (gcell_lt (Nat.mod_lt _ hM) (Nat.mod_lt _ hM))).1,← Int.natCast_mul,← Int.natCast_add]
   omega
  unfold nat
  omega
 refine ⟨proC_len _ _ _ _,hpos,h16,fun x hx=>?_,once_iff.2 fun c d hc hd hcd hl he=>?_⟩
 ·obtain ⟨c,hc,rfl⟩:=List.getElem_of_mem hx
  rw[proC_len] at hc
  have:=hnum c hc
  rw[List.getElem?_eq_getElem (by rw[proC_len];exact hc),Option.getD_some] at this
  omega
 ·exfalso
  rw[proC_len] at hc hd
  obtain ⟨hi,hj,e⟩:=cell_parts hc
  obtain ⟨hi',hj',e'⟩:=cell_parts hd
  have h1:=hnum c hc
  have h2:=hnum d hd
  have h3:nat (proC N M cs ds) c=nat (proC N M cs ds) d:=by omega
  unfold lineB at hl
  rw[Bool.or_eq_true,beq_iff_eq,beq_iff_eq] at hl
  generalize c / (N*M)=p at *
  generalize c % (N*M)=q at *
  generalize d / (N*M)=p' at *
  generalize d % (N*M)=q' at *
  obtain ⟨i1,i2,a1,a2,rfl⟩:=two_of hM hi
  obtain ⟨j1,j2,b1,b2,rfl⟩:=two_of hM hj
  obtain ⟨k1,k2,a3,a4,rfl⟩:=two_of hM hi'
  obtain ⟨l1,l2,b3,b4,rfl⟩:=two_of hM hj'
  rw[e,e',pro_two L D a1 a2 b1 b2,pro_two L D a3 a4 b3 b4] at h3
  obtain ⟨h4,h5⟩:=two_inj (D.lt a2 b2) (D.lt a4 b4) h3
  rcases hl with hl|hl
  ·obtain ⟨rfl,rfl⟩:=two_inj a2 a4 hl
   have e1:=L.rinj a1 b1 b3 h4
   have e2:=D.rinj a2 b2 b4 h5
   subst e1;subst e2
   omega
  ·obtain ⟨rfl,rfl⟩:=two_inj b2 b4 hl
   have e1:=L.cinj a1 b1 a3 h4
   have e2:=D.cinj a2 b2 a4 h5
   subst e1;subst e2
   omega
theorem pro_redu {N M:Nat} {cs ds:List Int} (L:Latin N cs) (D:Latin M ds) (h16:N*M≤16) {x1 x2 y1 y2:Nat} (a1:x1<N) (a2:x2<M) (b1:y1<N) (b2:y2<M) :
  nat (reduL (-1) (N*M) (proC N M cs ds)) ((M*x1+x2)*(N*M)+(M*y1+y2))=M*nat (reduL (-1) N cs) (x1*N+y1)+nat (reduL (-1) M ds) (x2*M+y2):=by
 have P:=pro_latin L D h16
 obtain ⟨za,z1,z2⟩:=L.ron L.pos (x:=0) L.pos
 obtain ⟨zb,z3,z4⟩:=D.ron D.pos (x:=0) D.pos
 obtain ⟨i1,c1,c2⟩:=L.con z1 a1
 obtain ⟨i2,c3,c4⟩:=D.con z3 a2
 obtain ⟨j1,d1,d2⟩:=L.ron L.pos b1
 obtain ⟨j2,d3,d4⟩:=D.ron D.pos b2
 have hz:nat (proC N M cs ds) (M*za+zb)=0:=by
  have:=pro_two L D L.pos D.pos z1 z3
  rw[z2,z4,Nat.mul_zero,Nat.zero_add,Nat.zero_mul,Nat.zero_add] at this
  exact this
 have hj:nat (proC N M cs ds) (M*j1+j2)=M*y1+y2:=by
  have:=pro_two L D L.pos D.pos d1 d3
  rw[d2,d4,Nat.mul_zero,Nat.zero_add,Nat.zero_mul,Nat.zero_add] at this
  exact this
 have h:=redu_at (x := -1) P (two_lt z1 z3) hz (two_lt c1 c3) (two_lt d1 d3)
 rw[pro_two L D c1 c3 z1 z3,hj,c2,c4,pro_two L D c1 c3 d1 d3] at h
 rw[h]
 rw[Nat.zero_mul,Nat.zero_add] at z2 z4 d2 d4
 have ha:=redu_at (x := -1) L z1 z2 c1 d1
 have hb:=redu_at (x := -1) D z3 z4 c3 d3
 rw[c2,d2] at ha
 rw[c4,d4] at hb
 rw[ha,hb]
theorem pro_grp {N M:Nat} {cs ds:List Int} (L:Latin N cs) (D:Latin M ds) (h16:N*M≤16):kGrp (N*M) (proC N M cs ds)=(kGrp N cs&&kGrp M ds):=by
 have P:=pro_latin L D h16
 have hA:=fun {x y:Nat} (hx:x<N) (hy:y<N)=>(redu_latin (x := -1) L).lt hx hy
 have hB:=fun {x y:Nat} (hx:x<M) (hy:y<M)=>(redu_latin (x := -1) D).lt hx hy
 rw[Bool.eq_iff_iff,Bool.and_eq_true,kGrp_iff P.pos,kGrp_iff L.pos,kGrp_iff D.pos]
 have hstep:∀{x1 x2 y1 y2 z1 z2:Nat},x1<N→x2<M→y1<N→y2<M→z1<N→z2<M →
   (nat (reduL (-1) (N*M) (proC N M cs ds)) (nat (reduL (-1) (N*M) (proC N M cs ds)) ((M*x1+x2)*(N*M)+(M*y1+y2))*(N*M)+(M*z1+z2))=M*nat (reduL (-1) N cs) (nat (reduL (-1) N cs) (x1*N+y1)*N+z1)+nat (reduL (-1) M ds) (nat (reduL (-1) M ds) (x2*M+y2)*M+z2)) ∧
   (nat (reduL (-1) (N*M) (proC N M cs ds)) ((M*x1+x2)*(N*M)+nat (reduL (-1) (N*M) (proC N M cs ds)) ((M*y1+y2)*(N*M)+(M*z1+z2)))=M*nat (reduL (-1) N cs) (x1*N+nat (reduL (-1) N cs) (y1*N+z1))+nat (reduL (-1) M ds) (x2*M+nat (reduL (-1) M ds) (y2*M+z2))):=fun a1 a2 b1 b2 c1 c2=>by
  rw[pro_redu L D h16 a1 a2 b1 b2,pro_redu L D h16 (hA a1 b1) (hB a2 b2) c1 c2,pro_redu L D h16 b1 b2 c1 c2,pro_redu L D h16 a1 a2 (hA b1 c1) (hB b2 c2)]
  exact ⟨rfl,rfl⟩
 constructor
 ·intro h
  constructor
  ·intro x y z hx hy hz
   have h1:=h (M*x+0) (M*y+0) (M*z+0) (two_lt hx D.pos) (two_lt hy D.pos) (two_lt hz D.pos)
   rw[(hstep hx D.pos hy D.pos hz D.pos).1,(hstep hx D.pos hy D.pos hz D.pos).2] at h1
   exact (two_inj (hB (hB D.pos D.pos) D.pos) (hB D.pos (hB D.pos D.pos)) h1).1
  ·intro x y z hx hy hz
   have h1:=h (M*0+x) (M*0+y) (M*0+z) (two_lt L.pos hx) (two_lt L.pos hy) (two_lt L.pos hz)
   rw[(hstep L.pos hx L.pos hy L.pos hz).1,(hstep L.pos hx L.pos hy L.pos hz).2] at h1
   exact (two_inj (hB (hB hx hy) hz) (hB hx (hB hy hz)) h1).2
 ·rintro ⟨ha,hb⟩ x y z hx hy hz
  obtain ⟨x1,x2,a1,a2,rfl⟩:=two_of D.pos hx
  obtain ⟨y1,y2,b1,b2,rfl⟩:=two_of D.pos hy
  obtain ⟨z1,z2,c1,c2,rfl⟩:=two_of D.pos hz
  rw[(hstep a1 a2 b1 b2 c1 c2).1,(hstep a1 a2 b1 b2 c1 c2).2,ha x1 y1 z1 a1 b1 c1,hb x2 y2 z2 a2 b2 c2]
theorem ortho_iff {n:Nat} {cs ds:List Int} (L:Latin n cs) (D:Latin n ds):Ortho cs ds↔∀i j i' j',i<n→j<n→i'<n→j'<n→nat cs (i*n+j)=nat cs (i'*n+j')→nat ds (i*n+j)=nat ds (i'*n+j')→i=i'∧j=j':=by
 constructor
 ·intro h i j i' j' hi hj hi' hj' h1 h2
  have e1:=L.nat (gcell_lt hi hj)
  have e2:=L.nat (gcell_lt hi' hj')
  have e3:=D.nat (gcell_lt hi hj)
  have e4:=D.nat (gcell_lt hi' hj')
  have hp:pairEq cs ds (i*n+j) (i'*n+j')=true:=by
   unfold pairEq
   rw[e1.1,e2.1,e3.1,e4.1,h1,h2];simp
  have hp':pairEq cs ds (i'*n+j') (i*n+j)=true:=by
   unfold pairEq
   rw[e1.1,e2.1,e3.1,e4.1,h1,h2];simp
  have he:i*n+j=i'*n+j':=by
   rcases Nat.lt_trichotomy (i*n+j) (i'*n+j') with e|e|e
   ·rw[h _ _ e (by rw[L.len];exact gcell_lt hi' hj')] at hp;cases hp
   ·exact e
   ·rw[h _ _ e (by rw[L.len];exact gcell_lt hi hj)] at hp';cases hp'
  have d1:=gcell_div (i:=i) hj
  have d2:=gcell_div (i:=i') hj'
  rw[he] at d1
  exact ⟨by omega,by omega⟩
 ·intro h c d hcd hd
  rw[L.len] at hd
  rw[Bool.eq_false_iff]
  intro hp
  unfold pairEq at hp
  rw[Bool.and_eq_true,beq_iff_eq,beq_iff_eq] at hp
  obtain ⟨a1,a2,a3⟩:=cell_parts (show c<n*n by omega)
  obtain ⟨b1,b2,b3⟩:=cell_parts hd
  have:=h (c / n) (c % n) (d / n) (d % n) a1 a2 b1 b2 (by rw[← a3,← b3];unfold nat;rw[hp.1]) (by rw[← a3,← b3];unfold nat;rw[hp.2])
  rw[this.1,this.2] at a3
  omega
theorem pro_ortho {N M:Nat} {cs ds es:List Int} (L:Latin N cs) (D:Latin M ds) (E:Latin N es) (h16:N*M≤16):Ortho (proC N M cs ds) (proC N M es ds)↔Ortho cs es∧Ortho ds ds:=by
 rw[ortho_iff (pro_latin L D h16) (pro_latin E D h16),ortho_iff L E,ortho_iff D D]
 constructor
 ·intro h
  constructor
  ·intro i j i' j' hi hj hi' hj' h1 h2
   have:=h (M*i+0) (M*j+0) (M*i'+0) (M*j'+0) (two_lt hi D.pos) (two_lt hj D.pos) (two_lt hi' D.pos) (two_lt hj' D.pos) (by rw[pro_two L D hi D.pos hj D.pos,pro_two L D hi' D.pos hj' D.pos,h1]) (by rw[pro_two E D hi D.pos hj D.pos,pro_two E D hi' D.pos hj' D.pos,h2])
   exact ⟨(two_inj D.pos D.pos this.1).1,(two_inj D.pos D.pos this.2).1⟩
  ·intro i j i' j' hi hj hi' hj' h1 _
   have:=h (M*0+i) (M*0+j) (M*0+i') (M*0+j') (two_lt L.pos hi) (two_lt L.pos hj) (two_lt L.pos hi') (two_lt L.pos hj') (by rw[pro_two L D L.pos hi L.pos hj,pro_two L D L.pos hi' L.pos hj',h1]) (by rw[pro_two E D L.pos hi L.pos hj,pro_two E D L.pos hi' L.pos hj',h1])
   exact ⟨(two_inj hi hi' this.1).2,(two_inj hj hj' this.2).2⟩
 ·rintro ⟨h1,h2⟩ i j i' j' hi hj hi' hj' g1 g2
  obtain ⟨i1,i2,a1,a2,rfl⟩:=two_of D.pos hi
  obtain ⟨j1,j2,b1,b2,rfl⟩:=two_of D.pos hj
  obtain ⟨k1,k2,a3,a4,rfl⟩:=two_of D.pos hi'
  obtain ⟨l1,l2,b3,b4,rfl⟩:=two_of D.pos hj'
  rw[pro_two L D a1 a2 b1 b2,pro_two L D a3 a4 b3 b4] at g1
  rw[pro_two E D a1 a2 b1 b2,pro_two E D a3 a4 b3 b4] at g2
  obtain ⟨u1,u2⟩:=two_inj (D.lt a2 b2) (D.lt a4 b4) g1
  obtain ⟨v1,v2⟩:=two_inj (D.lt a2 b2) (D.lt a4 b4) g2
  obtain ⟨rfl,rfl⟩:=h1 i1 j1 k1 l1 a1 b1 a3 b3 u1 v1
  obtain ⟨rfl,rfl⟩:=h2 i2 j2 k2 l2 a2 b2 a4 b4 u2 v2
  exact ⟨rfl,rfl⟩
end
section
open Go Go.RowKit
attribute [local go_sem] over_cell
attribute [local go_sem] Oper.semAt_some
def SC (w:World) (a:Option Addr) (n:Nat) (l:List ByteArray):Prop:=(l.length=n∧n≤1000)∧∀k,k<n→∃b off,a=some ⟨b,off,none⟩∧b<w.heap.size∧w.cell? ⟨b,off+k,none⟩=some (.string (l[k]?.getD ⟨#[]⟩))
theorem SC.mono {w w':World} {a:Option Addr} {n:Nat} {l:List ByteArray} (h:SC w a n l) (hb:Below w.heap.size w w'):SC w' a n l :=
 ⟨h.1,fun k hk=>by
  obtain ⟨b,off,e,hl,hc⟩:=h.2 k hk
  exact ⟨b,off,e,Nat.lt_of_lt_of_le hl hb.size,(hb.cell (p:=⟨b,off+k,none⟩) hl).trans hc⟩⟩
def isGr (s:ByteArray):Bool:=s.toList==[103,114,111,117,112]
theorem lhas_c (a:Option Addr) (n c:Nat) (l:List ByteArray) (w:World) (h:SC w a n l) :
  Calls Tryz.prog 73 #[.slice a n c,.string ⟨#[103,114,111,117,112]⟩] w fun e w'=>e = .returned (.bool (l.any isGr))∧Below w.heap.size w w':=by
 have HH:=Lib.hid h
 have HL:Hid (l.length=n):=h.1.1
 have hn:=h.1.2
 clear h
 go_enter Tryz.func73,Tryz.ntmps73
 go_wp2_with fail
 go_loopw [6,9] (fun _ s9 wr=>∃k:Nat,k≤n∧s9 = .int .i64 (k:Int)∧Hid (∀j,j<k→isGr (l[j]?.getD ⟨#[]⟩)=false)∧wr=w) (fun _ s9 _=>n - (intOf s9).toNat)
 case atStart=>exact ⟨0,by omega,rfl,fun j hj=>absurd hj (by omega),rfl⟩
 case round =>
  obtain ⟨k,hk,rfl,hp,hwr⟩:=hrel
  replace hwr:=hwr.symm
  subst hwr
  by_cases hlt:k<n
  ·have hki:(k:Int)<(n:Int):=by omega
   obtain ⟨b,off,rfl,hb,hc⟩:=HH.out.2 k hlt
   have HE:Hid (l[k]?.getD ⟨#[]⟩∈l):=by unfold Hid;rw[List.getElem?_eq_getElem (by rw[HL.out];exact hlt)];exact List.getElem_mem _
   obtain ⟨s,hs⟩:∃s,s=l[k]?.getD ⟨#[]⟩:=⟨_,rfl⟩
   rw[← hs] at hc HE
   have HS:=Lib.hid hs
   clear hs
   by_cases hg:isGr s=true
   ·have hg2:(s.toList==[103,114,111,117,112])=true:=hg
    have HY:Hid (l.any isGr=true):=List.any_eq_true.2 ⟨s,HE.out,hg⟩
    go_wp2_with fail
    refine bodyPost_ret (v := .bool true) ?_ rfl ⟨by rw[HY.out],Below.refl _ _⟩
    simp[results,Tryz.f73,go_sem]
   ·have hg2:(s.toList==[103,114,111,117,112])=false:=by simpa [isGr] using hg
    go_wp2_with fail
    go_roundw
    case rel=>exact ⟨k+1,by omega,by go_num,fun j hj=>by
     rcases Nat.lt_or_ge j k with e|e
     ·exact hp.out j e
     ·rw[show j=k by omega,← HS.out];simpa using hg,trivial⟩
    case measure=>simp[intOf];omega
  ·have hki:¬(k:Int)<(n:Int):=by omega
   have HY:Hid (l.any isGr=false):=List.any_eq_false.2 fun s hs=>by
    obtain ⟨j,hj,rfl⟩:=List.getElem_of_mem hs
    have:=hp.out j (by rw[HL.out] at hj;omega)
    rw[List.getElem?_eq_getElem hj,Option.getD_some] at this
    rw[this];decide
   go_wp2_with fail
   refine bodyPost_ret (v := .bool false) ?_ rfl ⟨by rw[HY.out],Below.refl _ _⟩
   simp[results,Tryz.f73,go_sem]
theorem names_gr (n:Nat) (cs:List Int):(kNames n cs 7).any isGr=kGrp n cs:=by
 have h:∀i,i<7→isGr (kStr i)=decide (i=6):=by
  decide +kernel
 unfold kNames
 rw[List.any_map]
 cases hk:kGrp n cs with
 | true =>
  rw[List.any_eq_true]
  refine ⟨6,?_,by rw[Function.comp,h 6 (by omega)];rfl⟩
  unfold kindTo
  rw[List.mem_filter]
  exact ⟨List.mem_range.2 (by omega),hk⟩
 | false =>
  rw[List.any_eq_false]
  intro i hi
  unfold kindTo at hi
  rw[List.mem_filter] at hi
  have h7:=List.mem_range.1 hi.1
  rw[Function.comp,h i h7]
  by_cases e:i=6
  ·subst e
   have h2:kGrp n cs=true:=hi.2
   rw[hk] at h2;cases h2
  ·simp[e]
end
end Go.Proofs.YtmfpdakaeagdpaaGreat
