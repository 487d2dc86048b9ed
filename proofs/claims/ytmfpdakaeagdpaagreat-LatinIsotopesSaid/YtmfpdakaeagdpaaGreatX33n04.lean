/- Texts J165 to J174 of this proof, in one file. -/
import Derived.Test.YtmfpdakaeagdpaaGreatW01
import Derived.Test.YtmfpdakaeagdpaaGreatW02
import Derived.Test.YtmfpdakaeagdpaaGreatW03
import Derived.Test.YtmfpdakaeagdpaaGreatW04
import Derived.Test.YtmfpdakaeagdpaaGreatW05
import Derived.Test.YtmfpdakaeagdpaaGreatW06
import Derived.Test.YtmfpdakaeagdpaaGreatW07
import Derived.Test.YtmfpdakaeagdpaaGreatW08
import Derived.Test.YtmfpdakaeagdpaaGreatW09
import Derived.Test.YtmfpdakaeagdpaaGreatW10
import Derived.Test.YtmfpdakaeagdpaaGreatW11
import Derived.Test.YtmfpdakaeagdpaaGreatW12
import Derived.Test.YtmfpdakaeagdpaaGreatW13
import Derived.Test.YtmfpdakaeagdpaaGreatW14
import Derived.Test.YtmfpdakaeagdpaaGreatW15
import Derived.Test.YtmfpdakaeagdpaaGreatW16
import Derived.Test.YtmfpdakaeagdpaaGreatW17
import Derived.Test.YtmfpdakaeagdpaaGreatW18
import Derived.Test.YtmfpdakaeagdpaaGreatW19
import Derived.Test.YtmfpdakaeagdpaaGreatW20
import Derived.Test.YtmfpdakaeagdpaaGreatW21
import Derived.Test.YtmfpdakaeagdpaaGreatW22
import Derived.Test.YtmfpdakaeagdpaaGreatW23
import Derived.Test.YtmfpdakaeagdpaaGreatW24
import Derived.Test.YtmfpdakaeagdpaaGreatW25
import Derived.Test.YtmfpdakaeagdpaaGreatW26
import Derived.Test.YtmfpdakaeagdpaaGreatW27
import Derived.Test.YtmfpdakaeagdpaaGreatX33n01
import Derived.Test.YtmfpdakaeagdpaaGreatX33n02
import Derived.Test.YtmfpdakaeagdpaaGreatX33n03
import Derived.Below
import Derived.BigFrame
import Derived.BigQuiet
import Derived.Deep.CutBlock
import Derived.Deep.CutRange
import Derived.Deep.LoopGhost
import Derived.Deep.Quiet
import Derived.Deep.RegionHeld3
import Derived.DeepKeys4
import Derived.KernelRfl
import Derived.Laws.BitsAllLaws
import Derived.Laws.EntriesVeiled
import Derived.Lib.AppendZeros
import Derived.Lib.Hide
import Derived.Lib.SlKeysI
import Derived.Lib.SliceRun
import Derived.LoopIn
import Derived.LoopNIn
import Derived.Maps.AppendAt
import Derived.Maps.OwnIn
import Derived.Maps.OwnSet
import Derived.OneCell
import Derived.OrdersHeld
import Derived.OrdersIn
import Derived.OwnWalkIn
import Derived.RangeFuncBound
import Derived.RangeFuncBox
import Derived.RangeFuncCalls
import Derived.RangeFuncLeaves
import Derived.RangeFuncNested
import Derived.RangeFuncWrites
import Derived.Shelf.Abstract
import Derived.Shelf.SortM.Plain
import Derived.Still
import Derived.TacticsIn
import Derived.TacticsInMore
import Derived.Test.YtmfpdakaeagdpaaGreatProg
import Derived.WalkKit
import Derived.WalkLawsBesides
import Derived.WalkSpells
import Derived.WideKeyPair
namespace Go.Proofs.YtmfpdakaeagdpaaGreat
set_option maxRecDepth 100000
set_option maxHeartbeats 16000000
section
theorem albert {n:Nat} {R S:Nat→Nat→Nat} {al be ga:Nat→Nat}
  (hR:∀u v,u<n→v<n→R u v<n)
  (hc:∀u p,u<n→p<n→∃c,c<n∧R c p=u) (hd:∀s p,s<n→p<n→∃d,d<n∧R p d=s)
  (hal:∀u,u<n→al u<n) (hbe:∀u,u<n→be u<n)
  (ha:∀x,x<n→∃u,u<n∧al u=x) (hb:∀x,x<n→∃u,u<n∧be u=x)
  (hg:∀u v,u<n→v<n→ga u=ga v→u=v)
  (hS:∀u v,u<n→v<n→S (al u) (be v)=ga (R u v))
  (h0:∀x,x<n→S 0 x=x∧S x 0=x) (hn:0<n)
  (hA:∀x y z,x<n→y<n→z<n→R (R x y) z=R x (R y z)) :
  ∀x y z,x<n→y<n→z<n→S (S x y) z=S x (S y z):=by
 intro x y z hx hy hz
 obtain ⟨p,hp,ep⟩:=ha 0 hn
 obtain ⟨q,hq,eq⟩:=hb 0 hn
 have hB:∀v,v<n→be v=ga (R p v):=fun v hv=>by
  have h1:=hS p v hp hv
  rw[ep,(h0 _ (hbe v hv)).1] at h1
  exact h1
 have hAl:∀u,u<n→al u=ga (R u q):=fun u hu=>by
  have h1:=hS u q hu hq
  rw[eq,(h0 _ (hal u hu)).2] at h1
  exact h1
 obtain ⟨u,hu,eu⟩:=ha x hx
 obtain ⟨s,hs,es⟩:=ha y hy
 obtain ⟨t,ht,et⟩:=hb y hy
 obtain ⟨w,hw,ew⟩:=hb z hz
 have hst:R s q=R p t:=hg _ _ (hR s q hs hq) (hR p t hp ht) (by rw[← hAl s hs,← hB t ht,es,et])
 obtain ⟨c,hc1,ec⟩:=hc u p hu hp
 obtain ⟨d,hd1,ed⟩:=hd s p hs hp
 have hcs:=hR c s hc1 hs
 have hdw:=hR d w hd1 hw
 have e1:R u t=R (R c s) q:=by rw[← ec,hA c p t hc1 hp ht,← hst,hA c s q hc1 hs hq]
 have e2:S x y=al (R c s):=by rw[← eu,← et,hS u t hu ht,e1,hAl _ hcs]
 have e3:R s w=R p (R d w):=by rw[← hA p d w hp hd1 hw,ed]
 have e4:S y z=be (R d w):=by rw[← es,← ew,hS s w hs hw,e3,hB _ hdw]
 rw[e2,← ew,hS _ _ hcs hw,ew,e4,← eu,hS _ _ hu hdw,← ec,hA c p _ hc1 hp hdw,← e3,hA c s w hc1 hs hw]
theorem iso_grp {x:Int} {n:Nat} {rows cols names cs:List Int} (L:Latin n cs) (R:PermL n rows) (K:PermL n cols) (M:PermL n names) (h:kGrp n cs=true):kGrp n (isoL x n rows cols names cs)=true:=by
 have hn:=L.pos
 have A:=iso_latin (x:=x) L R K M
 have RL:=redu_latin (x := -1) L
 have SL:=redu_latin (x := -1) A
 have hfr:=redu_frame (x := -1) A
 have hat:∀i j,i<n→j<n→nat (isoL x n rows cols names cs) (nat rows i*n+nat cols j)=nat names (nat cs (i*n+j)):=fun i j hi hj=>by
  have h1:=iso_get (x:=x) (names:=names) (cs:=cs) R K hi hj
  have h2:=A.nat (gcell_lt (R.get hi).2 (K.get hj).2)
  have h3:=M.get (L.lt hi hj)
  rw[h2.1,h3.1] at h1
  omega
 rw[kGrp_iff hn] at h ⊢
 obtain ⟨z,hz,ez⟩:=L.ron (i:=0) hn hn
 obtain ⟨z',hz',ez'⟩:=A.ron (i:=0) hn hn
 rw[Nat.zero_mul,Nat.zero_add] at ez ez'
 have hr:=fun i j hi hj=>redu_at (x := -1) L hz ez (i:=i) (j:=j) hi hj
 have hs:=fun i j hi hj=>redu_at (x := -1) A hz' ez' (i:=i) (j:=j) hi hj
 -- the row of u,the column of v
 have fi:∀u,∃i,u<n→i<n∧nat cs (i*n+z)=u:=fun u=>by
  by_cases hu:u<n
  ·obtain ⟨i,h1,h2⟩:=L.con hz hu
   exact ⟨i,fun _=>⟨h1,h2⟩⟩
  ·exact ⟨0,fun e=>absurd e hu⟩
 have fj:∀v,∃j,v<n→j<n∧nat cs j=v:=fun v=>by
  by_cases hv:v<n
  ·obtain ⟨j,h1,h2⟩:=L.ron (i:=0) hn hv
   rw[Nat.zero_mul,Nat.zero_add] at h2
   exact ⟨j,fun _=>⟨h1,h2⟩⟩
  ·exact ⟨0,fun e=>absurd e hv⟩
 obtain ⟨I,hI⟩:∃I:Nat→Nat,∀u,u<n→I u<n∧nat cs (I u*n+z)=u:=⟨fun u=>(fi u).choose,fun u hu=>(fi u).choose_spec hu⟩
 obtain ⟨J,hJ⟩:∃J:Nat→Nat,∀u,u<n→J u<n∧nat cs (J u)=u:=⟨fun u=>(fj u).choose,fun u hu=>(fj u).choose_spec hu⟩
 refine albert (R:=fun u v=>nat (reduL (-1) n cs) (u*n+v)) (S:=fun u v=>nat (reduL (-1) n (isoL x n rows cols names cs)) (u*n+v))
  (al:=fun u=>nat (isoL x n rows cols names cs) (nat rows (I u)*n+z')) (be:=fun v=>nat (isoL x n rows cols names cs) (nat cols (J v))) (ga:=nat names)
  (fun u v hu hv=>RL.lt hu hv) (fun u p hu hp=>RL.con hp hu) (fun s p hs hp=>RL.ron hp hs)
  (fun u hu=>A.lt (R.get (hI u hu).1).2 hz') (fun u hu=>?_) (fun y hy=>?_) (fun y hy=>?_) (fun u v hu hv e=>M.inj hu hv e) (fun u v hu hv=>?_) (fun y hy=>?_) hn (fun a b c ha hb hc=>h a b c ha hb hc)
 ·have:=A.lt (i:=0) hn (K.get (hJ u hu).1).2
  rw[Nat.zero_mul,Nat.zero_add] at this
  exact this
 ·obtain ⟨i',h1,h2⟩:=A.con hz' hy
  obtain ⟨i,h3,h4⟩:=R.onto h1
  refine ⟨nat cs (i*n+z),L.lt h3 hz,?_⟩
  have h5:=hI _ (L.lt h3 hz)
  have h6:=L.cinj h5.1 hz h3 h5.2
  show nat _ (nat rows (I (nat cs (i*n+z)))*n+z')=y
  rw[h6,h4,h2]
 ·obtain ⟨j',h1,h2⟩:=A.ron (i:=0) hn hy
  rw[Nat.zero_mul,Nat.zero_add] at h2
  obtain ⟨j,h3,h4⟩:=K.onto h1
  have hj0:=L.lt (i:=0) hn h3
  rw[Nat.zero_mul,Nat.zero_add] at hj0
  refine ⟨nat cs j,hj0,?_⟩
  have h5:=hJ _ hj0
  have h6:=L.rinj (i:=0) hn h5.1 h3 (by rw[Nat.zero_mul,Nat.zero_add,Nat.zero_add];exact h5.2)
  show nat _ (nat cols (J (nat cs j)))=y
  rw[h6,h4,h2]
 ·have h1:=hs (nat rows (I u)) (nat cols (J v)) (R.get (hI u hu).1).2 (K.get (hJ v hv).1).2
  show nat (reduL (-1) n (isoL x n rows cols names cs)) _=nat names (nat (reduL (-1) n cs) (u*n+v))
  rw[h1,hat _ _ (hI u hu).1 (hJ v hv).1]
  have h2:=hr (I u) (J v) (hI u hu).1 (hJ v hv).1
  rw[(hI u hu).2,(hJ v hv).2] at h2
  rw[h2]
 ·have h1:=hfr.1 y hy
  have h2:=hfr.2 y hy
  have h3:=SL.nat (c:=0*n+y) (gcell_lt hn hy)
  have h4:=SL.nat (c:=y*n+0) (gcell_lt hy hn)
  rw[Nat.zero_mul,Nat.zero_add] at h3
  rw[Nat.add_zero] at h4
  show nat (reduL (-1) n (isoL x n rows cols names cs)) (0*n+y)=y∧nat (reduL (-1) n (isoL x n rows cols names cs)) (y*n+0)=y
  rw[Nat.zero_mul,Nat.zero_add,Nat.add_zero]
  omega
def invL (n:Nat) (p:List Int):List Int:=putAll ((List.range n).map fun i=>(nat p i,(i:Int))) (List.replicate n 0)
theorem invL_len (n:Nat) (p:List Int):(invL n p).length=n:=by unfold invL;rw[putAll_len,List.length_replicate]
theorem invL_at {n:Nat} {p:List Int} (P:PermL n p) {i:Nat} (hi:i<n):(invL n p)[nat p i]?.getD 0=(i:Int)∧nat (invL n p) (nat p i)=i:=by
 have h:(invL n p)[nat p i]?=some (i:Int):=by
  unfold invL
  refine putAll_get (p:=(nat p i,(i:Int))) ?_ (List.mem_map.2 ⟨i,List.mem_range.2 hi,rfl⟩) (by rw[List.length_replicate];exact (P.get hi).2)
  rw[List.map_map,List.nodup_iff_pairwise_ne,List.pairwise_map]
  refine (List.pairwise_lt_range (n:=n)).imp_of_mem (fun {a b} ha hb hab e=>?_)
  have:=P.inj (List.mem_range.1 ha) (List.mem_range.1 hb) e
  omega
 refine ⟨by rw[h];rfl,?_⟩
 unfold Go.Proofs.YtmfpdakaeagdpaaGreat.nat
 rw[show (p[i]?.getD 0).toNat=nat p i from rfl,h]
 simp
theorem invL_perm {n:Nat} {p:List Int} (P:PermL n p):PermL n (invL n p):=by
 have hg:∀j (hj:j<(invL n p).length),∃i,i<n∧nat p i=j∧(invL n p)[j]=(i:Int):=fun j hj=>by
  rw[invL_len] at hj
  obtain ⟨i,hi,e⟩:=P.onto hj
  refine ⟨i,hi,e,?_⟩
  have h1:=(invL_at P hi).1
  rw[e,List.getElem?_eq_getElem (by rw[invL_len];exact hj),Option.getD_some] at h1
  exact h1
 refine ⟨invL_len n p,?_,fun x hx=>?_⟩
 ·rw[List.nodup_iff_pairwise_ne,List.pairwise_iff_getElem]
  intro i j hi hj hij e
  obtain ⟨a,_,h1,h2⟩:=hg i hi
  obtain ⟨b,_,h3,h4⟩:=hg j hj
  have:a=b:=by rw[h2,h4] at e;omega
  subst this
  omega
 ·obtain ⟨j,hj,rfl⟩:=List.getElem_of_mem hx
  obtain ⟨a,ha,_,h2⟩:=hg j hj
  rw[h2]
  omega
theorem list_ext {a b:List Int} {m:Nat} (ha:a.length=m) (hb:b.length=m) (h:∀i,i<m→a[i]?.getD 0=b[i]?.getD 0):a=b:=by
 apply List.ext_getElem (by rw[ha,hb])
 intro i h1 h2
 have:=h i (by omega)
 rw[List.getElem?_eq_getElem h1,List.getElem?_eq_getElem h2,Option.getD_some,Option.getD_some] at this
 exact this
theorem iso_nat {x:Int} {n:Nat} {rows cols names cs:List Int} (L:Latin n cs) (R:PermL n rows) (K:PermL n cols) (M:PermL n names) {i j:Nat} (hi:i<n) (hj:j<n):nat (isoL x n rows cols names cs) (nat rows i*n+nat cols j)=nat names (nat cs (i*n+j)):=by
 have h1:=iso_get (x:=x) (names:=names) (cs:=cs) R K hi hj
 have h2:=(iso_latin (x:=x) L R K M).nat (gcell_lt (R.get hi).2 (K.get hj).2)
 have h3:=M.get (L.lt hi hj)
 rw[h2.1,h3.1] at h1
 omega
theorem iso_back {x y:Int} {n:Nat} {rows cols names cs:List Int} (L:Latin n cs) (R:PermL n rows) (K:PermL n cols) (M:PermL n names):isoL y n (invL n rows) (invL n cols) (invL n names) (isoL x n rows cols names cs)=cs:=by
 have A:=iso_latin (x:=x) L R K M
 refine list_ext iso_len L.len (fun c hc=>?_)
 obtain ⟨h1,h2,h3⟩:=cell_parts hc
 have g1:=R.get h1
 have g2:=K.get h2
 have h4:=iso_get (x:=y) (names:=invL n names) (cs:=isoL x n rows cols names cs) (invL_perm R) (invL_perm K) g1.2 g2.2
 rw[(invL_at R h1).2,(invL_at K h2).2,← h3,iso_nat L R K M h1 h2,← h3,(invL_at M (L.nat hc).2).1] at h4
 rw[h4,(L.nat hc).1]
structure TriM (n:Nat) (cs ds:List Int) (q0 q1 q2:Nat) (a b c:Nat→Nat):Prop where
 q:Perm3 q0 q1 q2
 la:∀u,u<n→a u<n
 lb:∀u,u<n→b u<n
 lc:∀u,u<n→c u<n
 ia:∀u v,u<n→v<n→a u=a v→u=v
 ib:∀u v,u<n→v<n→b u=b v→u=v
 ic:∀u v,u<n→v<n→c u=c v→u=v
 at_:∀k,k<n*n→nat ds (a (triN n cs k q0)*n+b (triN n cs k q1))=c (triN n cs k q2)
theorem iso_tri {x:Int} {n:Nat} {rows cols names cs:List Int} (L:Latin n cs) (R:PermL n rows) (K:PermL n cols) (M:PermL n names):TriM n cs (isoL x n rows cols names cs) 0 1 2 (nat rows) (nat cols) (nat names) where
 q:=by unfold Perm3;omega
 la:=fun u hu=>(R.get hu).2
 lb:=fun u hu=>(K.get hu).2
 lc:=fun u hu=>(M.get hu).2
 ia:=fun u v hu hv e=>R.inj hu hv e
 ib:=fun u v hu hv e=>K.inj hu hv e
 ic:=fun u v hu hv e=>M.inj hu hv e
 at_:=fun k hk=>by
  obtain ⟨h1,h2,h3⟩:=cell_parts hk
  have h4:=iso_nat (x:=x) L R K M h1 h2
  rw[← h3] at h4
  exact h4
theorem tri_inj {n:Nat} {cs:List Int} (L:Latin n cs) {q0 q1 q2:Nat} (hq:Perm3 q0 q1 q2) {c d:Nat} (hc:c<n*n) (hd:d<n*n) (h0:triN n cs c q0=triN n cs d q0) (h1:triN n cs c q1=triN n cs d q1):c=d:=by
 obtain ⟨c1,c2,c3⟩:=cell_parts hc
 obtain ⟨d1,d2,d3⟩:=cell_parts hd
 have hrow:c / n=d / n→c % n=d % n→c=d:=fun e1 e2=>by rw[c3,d3,e1,e2]
 have hrs:c / n=d / n→nat cs c=nat cs d→c=d:=fun e1 e2=>hrow e1 (by
  rw[c3,d3,e1] at e2
  exact L.rinj d1 c2 d2 e2)
 have hcs:c % n=d % n→nat cs c=nat cs d→c=d:=fun e1 e2=>hrow (by
  rw[c3,d3,e1] at e2
  exact L.cinj c1 d2 d1 e2) e1
 rcases hq.cases with ⟨rfl,rfl,rfl⟩|⟨rfl,rfl,rfl⟩|⟨rfl,rfl,rfl⟩|⟨rfl,rfl,rfl⟩|⟨rfl,rfl,rfl⟩|⟨rfl,rfl,rfl⟩
 ·exact hrow h0 h1
 ·exact hrs h0 h1
 ·exact hrow h1 h0
 ·exact hcs h0 h1
 ·exact hrs h1 h0
 ·exact hcs h1 h0
theorem con_nat {x:Int} {n:Nat} {cs:List Int} (L:Latin n cs) {q0 q1 q2:Nat} (hq:Perm3 q0 q1 q2) {k:Nat} (hk:k<n*n):(conL x n q0 q1 q2 cs)[triN n cs k q0*n+triN n cs k q1]?.getD 0=(triN n cs k q2:Int):=by
 have hlt:=gcell_lt (triN_lt L hk q0) (triN_lt L hk q1)
 have h:(conL x n q0 q1 q2 cs)[triN n cs k q0*n+triN n cs k q1]?=some (triN n cs k q2:Int):=by
  unfold conL conG
  refine putAll_get (p:=(triN n cs k q0*n+triN n cs k q1,(triN n cs k q2:Int))) ?_ (List.mem_map.2 ⟨k,List.mem_range.2 hk,rfl⟩) (by rw[List.length_replicate];exact hlt)
  rw[List.map_map,List.nodup_iff_pairwise_ne,List.pairwise_map]
  refine (List.pairwise_lt_range (n:=n*n)).imp_of_mem (fun {c d} hc hd hcd e=>?_)
  have h1:=List.mem_range.1 hc
  have h2:=List.mem_range.1 hd
  have e2:triN n cs c q0*n+triN n cs c q1=triN n cs d q0*n+triN n cs d q1:=e
  have g1:=gcell_div (n:=n) (i:=triN n cs c q0) (triN_lt L h1 q1)
  have g2:=gcell_div (n:=n) (i:=triN n cs d q0) (triN_lt L h2 q1)
  rw[e2] at g1
  have:=tri_inj L hq h1 h2 (g1.1.symm.trans g2.1) (g1.2.symm.trans g2.2)
  omega
 rw[h];rfl
theorem con_latin {x:Int} {n:Nat} {cs:List Int} (L:Latin n cs) {q0 q1 q2:Nat} (hq:Perm3 q0 q1 q2):Latin n (conL x n q0 q1 q2 cs):=by
 have hat:∀p,p<n*n→∃k,k<n*n∧triN n cs k q0=p / n∧triN n cs k q1=p % n∧(conL x n q0 q1 q2 cs)[p]?.getD 0=(triN n cs k q2:Int):=fun p hp=>by
  obtain ⟨a1,a2,a3⟩:=cell_parts hp
  obtain ⟨k,hk,e1,e2⟩:=tri_onto L hq a1 a2
  have h1:=con_nat (x:=x) L hq hk
  rw[e1,e2,← a3] at h1
  exact ⟨k,hk,e1,e2,h1⟩
 have hl:(conL x n q0 q1 q2 cs).length=n*n:=conG_len x n q0 q1 q2 cs (n*n)
 have hq2:Perm3 q0 q2 q1:=by unfold Perm3 at hq ⊢;omega
 have hq3:Perm3 q1 q2 q0:=by unfold Perm3 at hq ⊢;omega
 refine ⟨hl,L.pos,L.le,fun y hy=>?_,?_⟩
 ·obtain ⟨p,hp,e⟩:=List.getElem_of_mem hy
  rw[hl] at hp
  obtain ⟨k,hk,_,_,h1⟩:=hat p hp
  have h2:=triN_lt L hk q2
  rw[List.getElem?_eq_getElem (by rw[hl];exact hp),Option.getD_some,e] at h1
  omega
 ·rw[once_iff]
  intro p r hp hr hpr hln he
  rw[hl] at hp hr
  obtain ⟨k,hk,e1,e2,h1⟩:=hat p hp
  obtain ⟨m,hm,f1,f2,g1⟩:=hat r hr
  rw[h1,g1] at he
  have h3:triN n cs k q2=triN n cs m q2:=by omega
  unfold lineB at hln
  rw[Bool.or_eq_true,beq_iff_eq,beq_iff_eq] at hln
  have hkm:k=m:=by
   rcases hln with h|h
   ·exact tri_inj L hq2 hk hm (by rw[e1,f1,h]) h3
   ·exact tri_inj L hq3 hk hm (by rw[e2,f2,h]) h3
  subst hkm
  have b1:=(cell_parts hp).2.2
  have b2:=(cell_parts hr).2.2
  rw[← e1,← e2] at b1
  rw[← f1,← f2] at b2
  omega
theorem con_tri {x:Int} {n:Nat} {cs:List Int} (L:Latin n cs) {q0 q1 q2:Nat} (hq:Perm3 q0 q1 q2):TriM n cs (conL x n q0 q1 q2 cs) q0 q1 q2 (fun u=>u) (fun u=>u) (fun u=>u) where
 q:=hq
 la:=fun u hu=>hu
 lb:=fun u hu=>hu
 lc:=fun u hu=>hu
 ia:=fun u v _ _ e=>e
 ib:=fun u v _ _ e=>e
 ic:=fun u v _ _ e=>e
 at_:=fun k hk=>by
  have h1:=con_nat (x:=x) L hq hk
  unfold Go.Proofs.YtmfpdakaeagdpaaGreat.nat
  rw[h1,Int.toNat_natCast]
theorem con_again {x y:Int} {n:Nat} {cs:List Int} (L:Latin n cs) {q0 q1 q2 t0 t1 t2:Nat} (hq:Perm3 q0 q1 q2) (ht:Perm3 t0 t1 t2) (h:∀f:Nat→Nat,[f q0,f q1,f q2][t0]?.getD 0=f 0∧[f q0,f q1,f q2][t1]?.getD 0=f 1∧[f q0,f q1,f q2][t2]?.getD 0=f 2):conL y n t0 t1 t2 (conL x n q0 q1 q2 cs)=cs:=by
 have D:=con_latin (x:=x) L hq
 refine list_ext (conG_len _ _ _ _ _ _ _) L.len (fun c hc=>?_)
 have hd:=gcell_lt (triN_lt L hc q0) (triN_lt L hc q1)
 have g:=gcell_div (n:=n) (i:=triN n cs c q0) (triN_lt L hc q1)
 have h1:=con_nat (x:=y) D ht hd
 have hs:∀t,t<3→triN n (conL x n q0 q1 q2 cs) (triN n cs c q0*n+triN n cs c q1) t=[triN n cs c q0,triN n cs c q1,triN n cs c q2][t]?.getD 0:=fun t ht=>by
  rcases (show t=0∨t=1∨t=2 by omega) with rfl|rfl|rfl
  ·exact g.1
  ·exact g.2
  ·exact (con_tri (x:=x) L hq).at_ c hc
 obtain ⟨e0,e1,e2⟩:=h (triN n cs c)
 rw[hs t0 ht.1,hs t1 ht.2.1,hs t2 ht.2.2.1,e0,e1,e2] at h1
 have h3:=(cell_parts hc).2.2
 rw[show triN n cs c 0=c / n from rfl,show triN n cs c 1=c % n from rfl,← h3,show triN n cs c 2=nat cs c from rfl] at h1
 rw[h1,(L.nat hc).1]
end
section
theorem transL_pre {n:Nat} {cs:List Int}:∀{f:Nat} {t X:List Int},X∈transL n cs f t→∃u,X=t++u
 | 0,t,X,h=>by
  rw[transL,List.mem_singleton] at h
  exact ⟨[],by rw[h,List.append_nil]⟩
 | f+1,t,X,h=>by
  rw[transL,List.mem_flatMap] at h
  obtain ⟨j,_,hj⟩:=h
  split at hj
  ·obtain ⟨u,e⟩:=transL_pre hj
   exact ⟨(j:Int) :: u,by rw[e,List.append_assoc];rfl⟩
  ·cases hj
theorem nodup_flat {β:Type} {g:Nat→List β} {key:β→Int} (h1:∀i,(g i).Nodup) (h2:∀i x,x∈g i→key x=(i:Int)) (k:Nat):((List.range k).flatMap g).Nodup:=by
 rw[List.nodup_iff_pairwise_ne,List.pairwise_flatMap]
 refine ⟨fun i _=>List.nodup_iff_pairwise_ne.1 (h1 i),(List.pairwise_lt_range (n:=k)).imp ?_⟩
 intro i j hij x hx y hy e
 have a1:=h2 i x hx
 have a2:=h2 j y hy
 rw[e] at a1
 omega
theorem transL_nodup {n:Nat} {cs:List Int}:∀{f:Nat} {t:List Int},(transL n cs f t).Nodup
 | 0,t=>by rw[transL];simp
 | f+1,t=>by
  rw[transL]
  refine nodup_flat (key:=fun X=>X[t.length]?.getD 0) (fun j=>?_) (fun j X hX=>?_) n
  ·split
   ·exact transL_nodup
   ·exact List.nodup_nil
  ·split at hX
   ·obtain ⟨u,e⟩:=transL_pre hX
    show X[t.length]?.getD 0=(j:Int)
    rw[e,List.append_assoc,List.getElem?_append_right (Nat.le_refl _),Nat.sub_self]
    rfl
   ·cases hX
theorem nat_get {t:List Int} {n:Nat} (hr:∀y,y∈t→0≤y∧y<(n:Int)) (hl:t.length=n) {i:Nat} (hi:i<n):t[i]?.getD 0=(nat t i:Int)∧nat t i<n:=by
 have h:=hr (t[i]?.getD 0) (by rw[List.getElem?_eq_getElem (by omega),Option.getD_some];exact List.getElem_mem _)
 unfold Go.Proofs.YtmfpdakaeagdpaaGreat.nat
 omega
theorem trans_iff {n:Nat} {cs t:List Int} (L:Latin n cs) (hl:t.length=n) (hr:∀y,y∈t→0≤y∧y<(n:Int)):transB n cs t=true↔∀i j,j<i→i<n→nat t i≠nat t j∧nat cs (i*n+nat t i)≠nat cs (j*n+nat t j):=by
 have hs:∀i,i<n→symAt n cs i (t[i]?.getD 0)=(nat cs (i*n+nat t i):Int):=fun i hi=>by
  obtain ⟨h1,h2⟩:=nat_get hr hl hi
  unfold symAt
  rw[h1,Int.toNat_natCast]
  exact (L.nat (gcell_lt hi h2)).1
 unfold transB
 rw[List.all_eq_true]
 constructor
 ·intro h i j hj hi
  have h1:=h i (List.mem_range.2 (by omega))
  rw[List.all_eq_true] at h1
  have h2:=h1 j (List.mem_range.2 hj)
  rw[Bool.not_eq_true',Bool.or_eq_false_iff,beq_eq_false_iff_ne,beq_eq_false_iff_ne,hs i hi,hs j (by omega),(nat_get hr hl hi).1,(nat_get hr hl (show j<n by omega)).1] at h2
  omega
 ·intro h i hi
  rw[List.all_eq_true]
  intro j hj
  rw[List.mem_range] at hi hj
  have h2:=h i j hj (by omega)
  rw[Bool.not_eq_true',Bool.or_eq_false_iff,beq_eq_false_iff_ne,beq_eq_false_iff_ne,hs i (by omega),hs j (by omega),(nat_get hr hl (show i<n by omega)).1,(nat_get hr hl (show j<n by omega)).1]
  omega
def kcT (n:Nat) (t:List Int) (i:Nat):Nat:=i*n+nat t i
theorem kcT_ne {n:Nat} {cs t:List Int} (hl:t.length=n) (hr:∀y,y∈t→0≤y∧y<(n:Int)) (h:∀i j,j<i→i<n→nat t i≠nat t j∧nat cs (i*n+nat t i)≠nat cs (j*n+nat t j)) {i j:Nat} (hi:i<n) (hj:j<n) (hij:i≠j) {q:Nat} (hq:q<3):triN n cs (kcT n t i) q≠triN n cs (kcT n t j) q:=by
 have d1:=gcell_div (n:=n) (i:=i) (nat_get hr hl hi).2
 have d2:=gcell_div (n:=n) (i:=j) (nat_get hr hl hj).2
 have h2:nat t i≠nat t j∧nat cs (i*n+nat t i)≠nat cs (j*n+nat t j):=by
  rcases Nat.lt_or_gt_of_ne hij with e|e
  ·have:=h j i e hj;exact ⟨this.1.symm,this.2.symm⟩
  ·exact h i j e hi
 rcases (show q=0∨q=1∨q=2 by omega) with rfl|rfl|rfl
 ·show (i*n+nat t i) / n≠(j*n+nat t j) / n
  rw[d1.1,d2.1];exact hij
 ·show (i*n+nat t i) % n≠(j*n+nat t j) % n
  rw[d1.2,d2.2];exact h2.1
 ·exact h2.2
def phiT (n:Nat) (cs:List Int) (q0 q1:Nat) (a b:Nat→Nat) (t:List Int):List Int:=putAll ((List.range n).map fun i=>(a (triN n cs (kcT n t i) q0),(b (triN n cs (kcT n t i) q1):Int))) (List.replicate n 0)
theorem trans_le {n:Nat} {cs ds:List Int} {q0 q1 q2:Nat} {a b c:Nat→Nat} (L:Latin n cs) (D:Latin n ds) (M:TriM n cs ds q0 q1 q2 a b c):(transL n cs n []).length≤(transL n ds n []).length:=by
 have h0:transB n cs []=true:=rfl
 have hS:∀t,t∈transL n cs n []→t.length=n∧(∀y,y∈t→0≤y∧y<(n:Int))∧∀i j,j<i→i<n→nat t i≠nat t j∧nat cs (i*n+nat t i)≠nat cs (j*n+nat t j):=fun t ht=>by
  obtain ⟨h1,h2,h3⟩:=transL_sound ht h0 (fun y hy=>absurd hy (by simp))
  have hl:t.length=n:=by rw[h2];simp
  exact ⟨hl,h3,(trans_iff L hl h3).1 h1⟩
 have hk:∀t,t∈transL n cs n []→∀i,i<n→kcT n t i<n*n:=fun t ht i hi=>gcell_lt hi (nat_get (hS t ht).2.1 (hS t ht).1 hi).2
 have hq0:=M.q.1
 have hq1:=M.q.2.1
 have hq2:=M.q.2.2.1
 have hlen:∀t,(phiT n cs q0 q1 a b t).length=n:=fun t=>by unfold phiT;rw[putAll_len,List.length_replicate]
 -- the rows of the image
 have hrow:∀t,t∈transL n cs n []→∀i j,i<n→j<n→a (triN n cs (kcT n t i) q0)=a (triN n cs (kcT n t j) q0)→i=j:=fun t ht i j hi hj e=>by
  by_cases hij:i=j
  ·exact hij
  ·exact absurd (M.ia _ _ (triN_lt L (hk t ht i hi) q0) (triN_lt L (hk t ht j hj) q0) e) (kcT_ne (hS t ht).1 (hS t ht).2.1 (hS t ht).2.2 hi hj hij hq0)
 have hat:∀t,t∈transL n cs n []→∀i,i<n→(phiT n cs q0 q1 a b t)[a (triN n cs (kcT n t i) q0)]?=some (b (triN n cs (kcT n t i) q1):Int):=fun t ht i hi=>by
  unfold phiT
  refine putAll_get (p:=(a (triN n cs (kcT n t i) q0),(b (triN n cs (kcT n t i) q1):Int))) ?_ (List.mem_map.2 ⟨i,List.mem_range.2 hi,rfl⟩) (by rw[List.length_replicate];exact M.la _ (triN_lt L (hk t ht i hi) q0))
  rw[List.map_map,List.nodup_iff_pairwise_ne,List.pairwise_map]
  refine (List.pairwise_lt_range (n:=n)).imp_of_mem (fun {x y} hx hy hxy e=>?_)
  have:=hrow t ht x y (List.mem_range.1 hx) (List.mem_range.1 hy) e
  omega
 have hnat:∀t,t∈transL n cs n []→∀i,i<n→nat (phiT n cs q0 q1 a b t) (a (triN n cs (kcT n t i) q0))=b (triN n cs (kcT n t i) q1):=fun t ht i hi=>by
  unfold Go.Proofs.YtmfpdakaeagdpaaGreat.nat
  rw[hat t ht i hi]
  simp
 have honto:∀t,t∈transL n cs n []→∀r,r<n→∃i,i<n∧a (triN n cs (kcT n t i) q0)=r:=fun t ht r hr =>
  inj_onto (f:=fun i=>a (triN n cs (kcT n t i) q0)) (fun i hi=>M.la _ (triN_lt L (hk t ht i hi) q0)) (fun i j hi hj e=>hrow t ht i j hi hj e) hr
 have hin:∀t,t∈transL n cs n []→phiT n cs q0 q1 a b t∈transL n ds n []:=fun t ht=>by
  have hr:∀y,y∈phiT n cs q0 q1 a b t→0≤y∧y<(n:Int):=fun y hy=>by
   obtain ⟨r,hr,e⟩:=List.getElem_of_mem hy
   rw[hlen] at hr
   obtain ⟨i,hi,ei⟩:=honto t ht r hr
   have h1:=hat t ht i hi
   rw[ei,List.getElem?_eq_getElem (by rw[hlen];exact hr),e] at h1
   have h2:=M.lb _ (triN_lt L (hk t ht i hi) q1)
   simp only[Option.some.injEq] at h1
   omega
  refine transL_has ((trans_iff D (hlen t) hr).2 fun r s hsr hrn=>?_) (hlen t) hr
  obtain ⟨i,hi,ei⟩:=honto t ht r hrn
  obtain ⟨j,hj,ej⟩:=honto t ht s (by omega)
  have hij:i≠j:=fun e=>by rw[e,ej] at ei;omega
  have hd:=fun q hq=>kcT_ne (cs:=cs) (hS t ht).1 (hS t ht).2.1 (hS t ht).2.2 hi hj hij (q:=q) hq
  rw[← ei,← ej,hnat t ht i hi,hnat t ht j hj,M.at_ _ (hk t ht i hi),M.at_ _ (hk t ht j hj)]
  exact ⟨fun e=>hd q1 hq1 (M.ib _ _ (triN_lt L (hk t ht i hi) q1) (triN_lt L (hk t ht j hj) q1) e),fun e=>hd q2 hq2 (M.ic _ _ (triN_lt L (hk t ht i hi) q2) (triN_lt L (hk t ht j hj) q2) e)⟩
 have hinj:∀t,t∈transL n cs n []→∀u,u∈transL n cs n []→phiT n cs q0 q1 a b t=phiT n cs q0 q1 a b u→t=u:=fun t ht u hu e=>by
  refine list_ext (hS t ht).1 (hS u hu).1 (fun i hi=>?_)
  obtain ⟨j,hj,ej⟩:=honto u hu _ (M.la _ (triN_lt L (hk t ht i hi) q0))
  have h1:=hnat t ht i hi
  rw[e,← ej,hnat u hu j hj] at h1
  have e0:=M.ia _ _ (triN_lt L (hk u hu j hj) q0) (triN_lt L (hk t ht i hi) q0) ej
  have e1:=M.ib _ _ (triN_lt L (hk u hu j hj) q1) (triN_lt L (hk t ht i hi) q1) h1
  have ek:=tri_inj L M.q (hk u hu j hj) (hk t ht i hi) e0 e1
  unfold kcT at ek
  have d1:=gcell_div (n:=n) (i:=j) (nat_get (hS u hu).2.1 (hS u hu).1 hj).2
  have d2:=gcell_div (n:=n) (i:=i) (nat_get (hS t ht).2.1 (hS t ht).1 hi).2
  rw[ek] at d1
  have a1:i=j:=d2.1.symm.trans d1.1
  subst a1
  have a2:nat t i=nat u i:=d2.2.symm.trans d1.2
  rw[(nat_get (hS t ht).2.1 (hS t ht).1 hi).1,(nat_get (hS u hu).2.1 (hS u hu).1 hi).1,a2]
 have hmap:((transL n cs n []).map (phiT n cs q0 q1 a b)).Nodup:=by
  rw[List.nodup_iff_pairwise_ne,List.pairwise_map]
  exact (List.nodup_iff_pairwise_ne.1 transL_nodup).imp_of_mem (fun {t u} ht hu hne e=>hne (hinj t ht u hu e))
 have:=nodupA_le hmap (fun x hx=>by
  obtain ⟨t,ht,e⟩:=List.mem_map.1 hx
  rw[← e]
  exact hin t ht)
 rw[List.length_map] at this
 exact this
def qlJ (n:Nat) (cs:List Int) (k i m j:Nat):List (Nat × Nat × Nat × Nat):=if cs[i*n+j]?.getD 0=cs[k*n+m]?.getD 0∧cs[i*n+m]?.getD 0=cs[k*n+j]?.getD 0 then [(i,k,j,m)] else []
def qlM (n:Nat) (cs:List Int) (k i m:Nat):List (Nat × Nat × Nat × Nat):=(List.range m).flatMap (qlJ n cs k i m)
def qlI (n:Nat) (cs:List Int) (k i:Nat):List (Nat × Nat × Nat × Nat):=(List.range n).flatMap (qlM n cs k i)
def qlK (n:Nat) (cs:List Int) (k:Nat):List (Nat × Nat × Nat × Nat):=(List.range k).flatMap (qlI n cs k)
def qlA (n:Nat) (cs:List Int):List (Nat × Nat × Nat × Nat):=(List.range n).flatMap (qlK n cs)
theorem sumN_flat {β:Type} {f:Nat→Nat} {g:Nat→List β} (h:∀i,f i=(g i).length):∀k,sumN f k=((List.range k).flatMap g).length
 | 0=>rfl
 | k+1=>by rw[sumN_succ,sumN_flat h k,List.range_succ,List.flatMap_append,List.length_append,h k];simp
theorem itK_len (n:Nat) (cs:List Int):itK n cs n=(qlA n cs).length:=by
 unfold itK qlA
 refine sumN_flat (fun k=>?_) n
 unfold itI qlK
 refine sumN_flat (fun i=>?_) k
 unfold itM qlI
 refine sumN_flat (fun m=>?_) n
 unfold itJ qlM
 refine sumN_flat (fun j=>?_) m
 unfold itC qlJ
 split <;> rfl
theorem mem_qlA {n:Nat} {cs:List Int} {x:Nat × Nat × Nat × Nat}:x∈qlA n cs↔x.1<x.2.1∧x.2.1<n∧x.2.2.1<x.2.2.2∧x.2.2.2<n∧cs[x.1*n+x.2.2.1]?.getD 0=cs[x.2.1*n+x.2.2.2]?.getD 0∧cs[x.1*n+x.2.2.2]?.getD 0=cs[x.2.1*n+x.2.2.1]?.getD 0:=by
 unfold qlA qlK qlI qlM qlJ
 simp only[List.mem_flatMap,List.mem_range]
 constructor
 ·rintro ⟨k,hk,i,hi,m,hm,j,hj,hx⟩
  split at hx
  ·rename_i h
   rw[List.mem_singleton] at hx
   subst hx
   exact ⟨hi,hk,hj,hm,h.1,h.2⟩
  ·cases hx
 ·rintro ⟨h1,h2,h3,h4,h5,h6⟩
  exact ⟨x.2.1,h2,x.1,h1,x.2.2.2,h4,x.2.2.1,h3,by rw[if_pos ⟨h5,h6⟩];simp⟩
theorem qlA_nodup (n:Nat) (cs:List Int):(qlA n cs).Nodup:=by
 unfold qlA
 refine nodup_flat (key:=fun x=>(x.2.1:Int)) (fun k=>?_) (fun k x hx=>?_) n
 ·unfold qlK
  refine nodup_flat (key:=fun x=>(x.1:Int)) (fun i=>?_) (fun i x hx=>?_) k
  ·unfold qlI
   refine nodup_flat (key:=fun x=>(x.2.2.2:Int)) (fun m=>?_) (fun m x hx=>?_) n
   ·unfold qlM
    refine nodup_flat (key:=fun x=>(x.2.2.1:Int)) (fun j=>?_) (fun j x hx=>?_) m
    ·unfold qlJ;split <;> simp
    ·unfold qlJ at hx
     split at hx
     ·rw[List.mem_singleton] at hx;subst hx;rfl
     ·cases hx
   ·unfold qlM qlJ at hx
    simp only[List.mem_flatMap,List.mem_range] at hx
    obtain ⟨j,_,hx⟩:=hx
    split at hx
    ·rw[List.mem_singleton] at hx;subst hx;rfl
    ·cases hx
  ·unfold qlI qlM qlJ at hx
   simp only[List.mem_flatMap,List.mem_range] at hx
   obtain ⟨m,_,j,_,hx⟩:=hx
   split at hx
   ·rw[List.mem_singleton] at hx;subst hx;rfl
   ·cases hx
 ·unfold qlK qlI qlM qlJ at hx
  simp only[List.mem_flatMap,List.mem_range] at hx
  obtain ⟨i,_,m,_,j,_,hx⟩:=hx
  split at hx
  ·rw[List.mem_singleton] at hx;subst hx;rfl
  ·cases hx
def prQ (n:Nat) (cs:List Int) (x:Nat × Nat × Nat × Nat):Nat→Nat × Nat
 | 0=>(x.1,x.2.1)
 | 1=>(x.2.2.1,x.2.2.2)
 | _=>(nat cs (x.1*n+x.2.2.1),nat cs (x.1*n+x.2.2.2))
theorem pr_facts {n:Nat} {cs:List Int} (L:Latin n cs) {x:Nat × Nat × Nat × Nat} (hx:x∈qlA n cs) (q:Nat):(prQ n cs x q).1<n∧(prQ n cs x q).2<n∧(prQ n cs x q).1≠(prQ n cs x q).2:=by
 obtain ⟨h1,h2,h3,h4,h5,h6⟩:=mem_qlA.1 hx
 match q with
 | 0=>exact ⟨by show x.1<n;omega,h2,by show x.1≠x.2.1;omega⟩
 | 1=>exact ⟨by show x.2.2.1<n;omega,h4,by show x.2.2.1≠x.2.2.2;omega⟩
 | q+2=>exact ⟨L.lt (by omega) (by omega),L.lt (by omega) (by omega),fun e=>by have:=L.rinj (i:=x.1) (by omega) (by omega) (by omega) e;omega⟩
theorem quad_img {n:Nat} {cs ds:List Int} {q0 q1 q2:Nat} {a b c:Nat→Nat} (_L:Latin n cs) (M:TriM n cs ds q0 q1 q2 a b c) {x:Nat × Nat × Nat × Nat} (hx:x∈qlA n cs) :
  nat ds (a (prQ n cs x q0).1*n+b (prQ n cs x q1).1)=c (prQ n cs x q2).1∧nat ds (a (prQ n cs x q0).2*n+b (prQ n cs x q1).2)=c (prQ n cs x q2).1∧nat ds (a (prQ n cs x q0).1*n+b (prQ n cs x q1).2)=c (prQ n cs x q2).2∧nat ds (a (prQ n cs x q0).2*n+b (prQ n cs x q1).1)=c (prQ n cs x q2).2:=by
 obtain ⟨h1,h2,h3,h4,h5,h6⟩:=mem_qlA.1 hx
 obtain ⟨i,k,j,m⟩:=x
 simp only at h1 h2 h3 h4 h5 h6
 have hi:i<n:=by omega
 have hj:j<n:=by omega
 have g1:=M.at_ _ (gcell_lt hi hj)
 have g2:=M.at_ _ (gcell_lt h2 h4)
 have g3:=M.at_ _ (gcell_lt hi h4)
 have g4:=M.at_ _ (gcell_lt h2 hj)
 have d1:=gcell_div (n:=n) (i:=i) hj
 have d2:=gcell_div (n:=n) (i:=k) h4
 have d3:=gcell_div (n:=n) (i:=i) h4
 have d4:=gcell_div (n:=n) (i:=k) hj
 have e2:nat cs (k*n+m)=nat cs (i*n+j):=by unfold Go.Proofs.YtmfpdakaeagdpaaGreat.nat;rw[h5]
 have e4:nat cs (k*n+j)=nat cs (i*n+m):=by unfold Go.Proofs.YtmfpdakaeagdpaaGreat.nat;rw[h6]
 rcases M.q.cases with ⟨rfl,rfl,rfl⟩|⟨rfl,rfl,rfl⟩|⟨rfl,rfl,rfl⟩|⟨rfl,rfl,rfl⟩|⟨rfl,rfl,rfl⟩|⟨rfl,rfl,rfl⟩ <;>
  simp only[triN,prQ,d1.1,d1.2,d2.1,d2.2,d3.1,d3.2,d4.1,d4.2,e2,e4] at g1 g2 g3 g4 ⊢ <;>
  refine ⟨?_,?_,?_,?_⟩ <;> first|exact g1|exact g2|exact g3|exact g4
def UP (p p':Nat × Nat):Prop:=(p.1=p'.1∧p.2=p'.2)∨(p.1=p'.2∧p.2=p'.1)
def imgQ4 (n:Nat) (cs:List Int) (q0 q1:Nat) (a b:Nat→Nat) (x:Nat × Nat × Nat × Nat):Nat × Nat × Nat × Nat :=
 (min (a (prQ n cs x q0).1) (a (prQ n cs x q0).2),max (a (prQ n cs x q0).1) (a (prQ n cs x q0).2),min (b (prQ n cs x q1).1) (b (prQ n cs x q1).2),max (b (prQ n cs x q1).1) (b (prQ n cs x q1).2))
theorem mm_UP {a1 a2 b1 b2:Nat} (h1:min a1 a2=min b1 b2) (h2:max a1 a2=max b1 b2):(a1=b1∧a2=b2)∨(a1=b2∧a2=b1):=by omega
theorem inter_le {n:Nat} {cs ds:List Int} {q0 q1 q2:Nat} {a b c:Nat→Nat} (L:Latin n cs) (D:Latin n ds) (M:TriM n cs ds q0 q1 q2 a b c):itK n cs n≤itK n ds n:=by
 rw[itK_len,itK_len]
 have hin:∀x,x∈qlA n cs→imgQ4 n cs q0 q1 a b x∈qlA n ds:=fun x hx=>by
  obtain ⟨e1,e2,e3,e4⟩:=quad_img L M hx
  have f0:=pr_facts L hx q0
  have f1:=pr_facts L hx q1
  have l0:=M.la _ f0.1
  have l1:=M.la _ f0.2.1
  have l2:=M.lb _ f1.1
  have l3:=M.lb _ f1.2.1
  have n0:a (prQ n cs x q0).1≠a (prQ n cs x q0).2:=fun e=>f0.2.2 (M.ia _ _ f0.1 f0.2.1 e)
  have n1:b (prQ n cs x q1).1≠b (prQ n cs x q1).2:=fun e=>f1.2.2 (M.ib _ _ f1.1 f1.2.1 e)
  unfold imgQ4
  generalize a (prQ n cs x q0).1=A0 at *
  generalize a (prQ n cs x q0).2=A1 at *
  generalize b (prQ n cs x q1).1=B0 at *
  generalize b (prQ n cs x q1).2=B1 at *
  have hc:∀p r,p<n→r<n→ds[p*n+r]?.getD 0=(nat ds (p*n+r):Int):=fun p r hp hr=>(D.nat (gcell_lt hp hr)).1
  rw[mem_qlA]
  simp only
  refine ⟨by omega,by omega,by omega,by omega,?_⟩
  rcases Nat.lt_or_gt_of_ne n0 with h|h <;> rcases Nat.lt_or_gt_of_ne n1 with h'|h'
  ·rw[Nat.min_eq_left (by omega),Nat.max_eq_right (by omega),Nat.min_eq_left (by omega),Nat.max_eq_right (by omega),hc _ _ l0 l2,hc _ _ l1 l3,hc _ _ l0 l3,hc _ _ l1 l2,e1,e2,e3,e4];exact ⟨rfl,rfl⟩
  ·rw[Nat.min_eq_left (by omega),Nat.max_eq_right (by omega),Nat.min_eq_right (by omega),Nat.max_eq_left (by omega),hc _ _ l0 l2,hc _ _ l1 l3,hc _ _ l0 l3,hc _ _ l1 l2,e1,e2,e3,e4];exact ⟨rfl,rfl⟩
  ·rw[Nat.min_eq_right (by omega),Nat.max_eq_left (by omega),Nat.min_eq_left (by omega),Nat.max_eq_right (by omega),hc _ _ l0 l2,hc _ _ l1 l3,hc _ _ l0 l3,hc _ _ l1 l2,e1,e2,e3,e4];exact ⟨rfl,rfl⟩
  ·rw[Nat.min_eq_right (by omega),Nat.max_eq_left (by omega),Nat.min_eq_right (by omega),Nat.max_eq_left (by omega),hc _ _ l0 l2,hc _ _ l1 l3,hc _ _ l0 l3,hc _ _ l1 l2,e1,e2,e3,e4];exact ⟨rfl,rfl⟩
 have hinj:∀x,x∈qlA n cs→∀y,y∈qlA n cs→imgQ4 n cs q0 q1 a b x=imgQ4 n cs q0 q1 a b y→x=y:=fun x hx y hy e=>by
  obtain ⟨e1,e2,e3,e4⟩:=quad_img L M hx
  obtain ⟨g1,g2,g3,g4⟩:=quad_img L M hy
  have f0:=pr_facts L hx q0
  have f1:=pr_facts L hx q1
  have f2:=pr_facts L hx q2
  have k0:=pr_facts L hy q0
  have k1:=pr_facts L hy q1
  have k2:=pr_facts L hy q2
  unfold imgQ4 at e
  simp only[Prod.mk.injEq] at e
  obtain ⟨m1,m2,m3,m4⟩:=e
  have u0:=mm_UP m1 m2
  have u1:=mm_UP m3 m4
  have U0:UP (prQ n cs x q0) (prQ n cs y q0):=u0.imp (fun h=>⟨M.ia _ _ f0.1 k0.1 h.1,M.ia _ _ f0.2.1 k0.2.1 h.2⟩) (fun h=>⟨M.ia _ _ f0.1 k0.2.1 h.1,M.ia _ _ f0.2.1 k0.1 h.2⟩)
  have U1:UP (prQ n cs x q1) (prQ n cs y q1):=u1.imp (fun h=>⟨M.ib _ _ f1.1 k1.1 h.1,M.ib _ _ f1.2.1 k1.2.1 h.2⟩) (fun h=>⟨M.ib _ _ f1.1 k1.2.1 h.1,M.ib _ _ f1.2.1 k1.1 h.2⟩)
  have U2:UP (prQ n cs x q2) (prQ n cs y q2):=by
   rcases u0 with ⟨h1,h2⟩|⟨h1,h2⟩ <;> rcases u1 with ⟨h3,h4⟩|⟨h3,h4⟩
   ·rw[h1,h3,g1] at e1;rw[h1,h4,g3] at e3
    exact .inl ⟨M.ic _ _ f2.1 k2.1 e1.symm,M.ic _ _ f2.2.1 k2.2.1 e3.symm⟩
   ·rw[h1,h3,g3] at e1;rw[h1,h4,g1] at e3
    exact .inr ⟨M.ic _ _ f2.1 k2.2.1 e1.symm,M.ic _ _ f2.2.1 k2.1 e3.symm⟩
   ·rw[h1,h3,g4] at e1;rw[h1,h4,g2] at e3
    exact .inr ⟨M.ic _ _ f2.1 k2.2.1 e1.symm,M.ic _ _ f2.2.1 k2.1 e3.symm⟩
   ·rw[h1,h3,g2] at e1;rw[h1,h4,g4] at e3
    exact .inl ⟨M.ic _ _ f2.1 k2.1 e1.symm,M.ic _ _ f2.2.1 k2.2.1 e3.symm⟩
  have UA:∀q,q<3→UP (prQ n cs x q) (prQ n cs y q):=fun q hq=>by
   have h3:=M.q
   unfold Perm3 at h3
   rcases (show q=q0∨q=q1∨q=q2 by omega) with rfl|rfl|rfl
   ·exact U0
   ·exact U1
   ·exact U2
  have V0:=UA 0 (by omega)
  have V1:=UA 1 (by omega)
  obtain ⟨a1,_,a3,_⟩:=mem_qlA.1 hx
  obtain ⟨b1,_,b3,_⟩:=mem_qlA.1 hy
  obtain ⟨i,k,j,m⟩:=x
  obtain ⟨i',k',j',m'⟩:=y
  unfold UP prQ at V0 V1
  simp only at V0 V1 a1 a3 b1 b3
  simp only[Prod.mk.injEq]
  omega
 have hmap:((qlA n cs).map (imgQ4 n cs q0 q1 a b)).Nodup:=by
  rw[List.nodup_iff_pairwise_ne,List.pairwise_map]
  exact (List.nodup_iff_pairwise_ne.1 (qlA_nodup n cs)).imp_of_mem (fun {t u} ht hu hne e=>hne (hinj t ht u hu e))
 have:=nodupA_le hmap (fun x hx=>by
  obtain ⟨t,ht,e⟩:=List.mem_map.1 hx
  rw[← e]
  exact hin t ht)
 rw[List.length_map] at this
 exact this
theorem iso_counts {x:Int} {n:Nat} {rows cols names cs:List Int} (L:Latin n cs) (R:PermL n rows) (K:PermL n cols) (M:PermL n names):(transL n (isoL x n rows cols names cs) n []).length=(transL n cs n []).length∧itK n (isoL x n rows cols names cs) n=itK n cs n:=by
 have A:=iso_latin (x:=x) L R K M
 have T1:=iso_tri (x:=x) L R K M
 have T2:=iso_tri (x:=x) A (invL_perm R) (invL_perm K) (invL_perm M)
 rw[iso_back L R K M] at T2
 exact ⟨Nat.le_antisymm (trans_le A L T2) (trans_le L A T1),Nat.le_antisymm (inter_le A L T2) (inter_le L A T1)⟩
theorem perm3_inv {q0 q1 q2:Nat} (h:Perm3 q0 q1 q2):∃t0 t1 t2,Perm3 t0 t1 t2∧∀f:Nat→Nat,[f q0,f q1,f q2][t0]?.getD 0=f 0∧[f q0,f q1,f q2][t1]?.getD 0=f 1∧[f q0,f q1,f q2][t2]?.getD 0=f 2:=by
 rcases h.cases with ⟨rfl,rfl,rfl⟩|⟨rfl,rfl,rfl⟩|⟨rfl,rfl,rfl⟩|⟨rfl,rfl,rfl⟩|⟨rfl,rfl,rfl⟩|⟨rfl,rfl,rfl⟩
 ·exact ⟨0,1,2,by unfold Perm3;omega,fun f=>⟨rfl,rfl,rfl⟩⟩
 ·exact ⟨0,2,1,by unfold Perm3;omega,fun f=>⟨rfl,rfl,rfl⟩⟩
 ·exact ⟨1,0,2,by unfold Perm3;omega,fun f=>⟨rfl,rfl,rfl⟩⟩
 ·exact ⟨2,0,1,by unfold Perm3;omega,fun f=>⟨rfl,rfl,rfl⟩⟩
 ·exact ⟨1,2,0,by unfold Perm3;omega,fun f=>⟨rfl,rfl,rfl⟩⟩
 ·exact ⟨2,1,0,by unfold Perm3;omega,fun f=>⟨rfl,rfl,rfl⟩⟩
theorem con_counts {x:Int} {n:Nat} {cs:List Int} (L:Latin n cs) {q0 q1 q2:Nat} (hq:Perm3 q0 q1 q2):(transL n (conL x n q0 q1 q2 cs) n []).length=(transL n cs n []).length∧itK n (conL x n q0 q1 q2 cs) n=itK n cs n:=by
 obtain ⟨t0,t1,t2,ht,hf⟩:=perm3_inv hq
 have A:=con_latin (x:=x) L hq
 have T1:=con_tri (x:=x) L hq
 have T2:=con_tri (x:=x) A ht
 rw[con_again L hq ht hf] at T2
 exact ⟨Nat.le_antisymm (trans_le A L T2) (trans_le L A T1),Nat.le_antisymm (inter_le A L T2) (inter_le L A T1)⟩
theorem iso_grp_eq {x:Int} {n:Nat} {rows cols names cs:List Int} (L:Latin n cs) (R:PermL n rows) (K:PermL n cols) (M:PermL n names):kGrp n (isoL x n rows cols names cs)=kGrp n cs:=by
 have A:=iso_latin (x:=x) L R K M
 cases h:kGrp n cs with
 | true=>exact iso_grp L R K M h
 | false =>
  cases h2:kGrp n (isoL x n rows cols names cs) with
  | false=>rfl
  | true =>
   have h3:=iso_grp (x:=x) A (invL_perm R) (invL_perm K) (invL_perm M) h2
   rw[iso_back L R K M,h] at h3
   cases h3
end
section
open Go Go.RowKit
attribute [local go_sem] over_cell
attribute [local go_sem] Oper.semAt_some
def invT (N:Nat) (p:List Int) (k:Nat):List Int:=putAll ((List.range k).map fun i=>(nat p i,(i:Int))) (List.replicate N 0)
theorem invT_succ (N:Nat) (p:List Int) (k:Nat):invT N p (k+1)=(invT N p k).set (nat p k) (k:Int):=by
 unfold invT
 rw[List.range_succ,List.map_append,List.map_singleton,putAll_snoc]
theorem cpE_of {N:Nat} {p:List Int} (P:PermL N p) (hN:N≤256):cpE p (N:Int)=0:=by
 have hl:p.length=N:=P.len
 have hb:permB p=true:=permB_end (fun k hk=>by
  rw[hl] at hk
  obtain ⟨h1,h2⟩:=P.get hk
  unfold badP
  rw[decide_eq_false (show ¬p[k]?.getD 0<0 by omega),decide_eq_false (show ¬(p.length:Int)≤p[k]?.getD 0 by omega),Bool.false_or,Bool.false_or]
  unfold hasB
  rw[Bool.eq_false_iff]
  intro e
  rw[List.contains_iff_mem,List.mem_take_iff_getElem] at e
  obtain ⟨i,hi,e⟩:=e
  have hin:i<N:=by omega
  have h3:=P.get hin
  rw[List.getElem?_eq_getElem (by omega),Option.getD_some,e] at h3
  have:=P.inj hin hk (by omega)
  omega)
 rw[cpE_val,if_pos (by rw[hl]),if_pos (show permE p=0 by unfold permE;rw[if_neg (by omega),if_pos hb])]
theorem ge_fr {w:World} {R:Int} {X:List Int} {er:Int} {e:Ending} {w':World} (hg:GridE w R R X er e w') (hl:X.length≤1000):∃a2 c2,e = .returned (.tuple #[.agg #[.int .i64 R,.int .i64 R,.slice a2 X.length c2],.int .i64 er])∧IC w' a2 X.length X∧(∀b2 o2,a2=some ⟨b2,o2,none⟩→w.heap.size≤b2)∧X.length≤c2∧Below w.heap.size w w':=by
 obtain ⟨a2,c2,he,ho,hb⟩:=hg
 obtain ⟨a3,c3,he3,hi3,hc3,_⟩:=gv_of ⟨a2,c2,he,ho,hb⟩ hl
 rw[he] at he3
 simp only[Ending.returned.injEq,Value.tuple.injEq,Array.mk.injEq,List.cons.injEq,Value.agg.injEq,Value.slice.injEq,true_and,and_true] at he3
 obtain ⟨rfl,rfl⟩:=he3
 refine ⟨a2,c2,he,hi3,fun b2 o2 e2=>?_,hc3,hb⟩
 rcases Nat.lt_or_ge b2 w.heap.size with hlt2|hge
 ·exact absurd rfl (ne_of_own ho hlt2 b2 o2 e2)
 ·exact hge
@[reducible] def gFr (w:World) (N nn:Nat) (X:List Int) (e:Ending) (w':World):Prop:=∃a2 c2,e = .returned (.tuple #[.agg #[.int .i64 (N:Int),.int .i64 (N:Int),.slice a2 nn c2],.int .i64 0])∧IC w' a2 nn X∧(∀b2 o2,a2=some ⟨b2,o2,none⟩→w.heap.size≤b2)∧nn≤c2∧Below w.heap.size w w'
theorem isot_law {N nn:Nat} (hnn:nn=N*N) {cs rows cols names:List Int} (L:Latin N cs) (R:PermL N rows) (K:PermL N cols) (M:PermL N names) (a:Option Addr) (c:Nat) (ar:Option Addr) (cr:Nat) (ak:Option Addr) (ck:Nat) (an:Option Addr) (cn:Nat) (w:World) (h:IC w a nn cs) (hr:IC w ar N rows) (hk:IC w ak N cols) (hn:IC w an N names) :
  Calls Tryz.prog 84 #[.agg #[.int .i64 (N:Int),.int .i64 (N:Int),.slice a nn c],.slice ar N cr,.slice ak N ck,.slice an N cn] w (gFr w N nn (isoL (-1) N rows cols names cs)):=by
 have hN:=L.le
 have hNN:=Nat.mul_le_mul hN hN
 have h9:=isot_c (N:Int) (N:Int) a nn c cs ar N cr rows ak N ck cols an N cn names w h hr hk hn
 have hF:ioF (N:Int) (N:Int) cs rows cols names=0:=by
  unfold ioF
  rw[lat_sqE L,cpE_of R (by omega),cpE_of K (by omega),cpE_of M (by omega)]
  rfl
 rw[hF,if_pos rfl,show ioL (N:Int) (N:Int) cs rows cols names=isoL (-1) N rows cols names cs by unfold ioL;rw[if_pos hF,Int.toNat_natCast]] at h9
 refine h9.mono fun e w' hg=>?_
 have h8:=ge_fr hg (by rw[iso_len];omega)
 rw[iso_len,← hnn] at h8
 exact h8
theorem conj_law {N nn:Nat} (hnn:nn=N*N) {cs:List Int} (L:Latin N cs) {q0 q1 q2:Nat} (hq:Perm3 q0 q1 q2) (a:Option Addr) (c:Nat) (w:World) (h:IC w a nn cs) :
  Calls Tryz.prog 85 #[.agg #[.int .i64 (N:Int),.int .i64 (N:Int),.slice a nn c],.agg #[.int .i64 (q0:Int),.int .i64 (q1:Int),.int .i64 (q2:Int)]] w (gFr w N nn (conL (-1) N q0 q1 q2 cs)):=by
 have hN:=L.le
 have hNN:=Nat.mul_le_mul hN hN
 have h9:=conj_c (N:Int) (N:Int) a nn c cs (q0:Int) (q1:Int) (q2:Int) w h
 have hp:cpE [(q0:Int),(q1:Int),(q2:Int)] 3=0:=by
  rcases hq.cases with ⟨rfl,rfl,rfl⟩|⟨rfl,rfl,rfl⟩|⟨rfl,rfl,rfl⟩|⟨rfl,rfl,rfl⟩|⟨rfl,rfl,rfl⟩|⟨rfl,rfl,rfl⟩ <;> decide
 have hF:cjF (N:Int) (N:Int) cs (q0:Int) (q1:Int) (q2:Int)=0:=by
  unfold cjF
  rw[lat_sqE L,hp]
  rfl
 rw[hF,if_pos rfl,show cjL (N:Int) (N:Int) cs (q0:Int) (q1:Int) (q2:Int)=conL (-1) N q0 q1 q2 cs by unfold cjL;rw[if_pos hF,Int.toNat_natCast,Int.toNat_natCast,Int.toNat_natCast,Int.toNat_natCast]] at h9
 have hcl:(conL (-1) N q0 q1 q2 cs).length=N*N:=conG_len _ _ _ _ _ _ _
 refine h9.mono fun e w' hg=>?_
 have h8:=ge_fr hg (by rw[hcl];omega)
 rw[hcl,← hnn] at h8
 exact h8
theorem redu_law {N nn:Nat} (hnn:nn=N*N) {cs:List Int} (L:Latin N cs) (a:Option Addr) (c:Nat) (w:World) (h:IC w a nn cs) (hcap:nn≤c) :
  Calls Tryz.prog 83 #[.agg #[.int .i64 (N:Int),.int .i64 (N:Int),.slice a nn c]] w (gFr w N nn (reduL (-1) N cs)):=by
 have hN:=L.le
 have hNN:=Nat.mul_le_mul hN hN
 have h9:=reduce_c (N:Int) (N:Int) a nn c cs w h hcap
 have hE:=lat_sqE L
 rw[hE,if_pos rfl,show redL (N:Int) (N:Int) cs=reduL (-1) N cs by unfold redL;rw[if_pos hE,Int.toNat_natCast]] at h9
 have hcl:=(redu_latin (x := -1) L).len
 refine h9.mono fun e w' hg=>?_
 have h8:=ge_fr hg (by rw[hcl];omega)
 rw[hcl,← hnn] at h8
 exact h8
theorem rinvert_c (N:Nat) (a:Option Addr) (c:Nat) (p:List Int) (P:PermL N p) (hN1:1≤N) (hN:N≤16) (w:World) (h:IC w a N p):Calls Tryz.prog 90 #[.slice a N c] w fun e w'=>∃g,e = .returned (.slice (some ⟨g,0,none⟩) N N)∧OI w' w.heap.size g N N (invL N p)∧Below w.heap.size w w':=by
 obtain ⟨i0,hi,hz0,hz1,hz2⟩:=info_parts infoInt
 have HI:=Lib.hid h
 have HP:=Lib.hid (fun k hk=>P.get (i:=k) hk)
 have HS:=Lib.hid (invT_succ N p)
 have H0:Hid (invT N p 0=List.replicate N 0):=rfl
 have HE:Hid (invT N p N=invL N p):=rfl
 generalize invT N p=iv at HS H0 HE
 generalize invL N p=X at HE ⊢
 clear h P
 go_enter Tryz.func90,Tryz.ntmps90
 go_wp2_with (first|(refine wpList_make_full _ rfl _ _ 22 rfl w.heap.size 3 i0 (.int .i64 0) 1 Tryz.underlying22 hi hz0 hz1 _ _ _ _ N rfl rfl (by simp) (by simp) (by rw[hz2];omega) (by unfold maxLen;omega) (Nat.le_refl _) ?_;intro W4 hown4 hgr4)|fail)
 rw[made_zeroF N] at hown4
 have hb4:Below w.heap.size w W4:=(Below.refl w.heap.size w).grown hgr4 (Nat.le_refl _) (fun k e=>by cases e)
 have T0:Hid (TmR w N N (iv 0) W4):=⟨by rw[H0.out];exact ⟨by simp,hown4⟩,hb4⟩
 clear hown4 hgr4 hb4
 go_loopw [4] (fun s4 wr=>∃k:Nat,k≤N∧s4 = .int .i64 (k:Int)∧Hid (TmR w N N (iv k) wr)) (fun s4 _=>N - (intOf s4).toNat)
 case atStart=>exact ⟨0,by omega,rfl,T0⟩
 case round =>
  obtain ⟨k,hk,rfl,hT⟩:=hrel
  by_cases hlt:k<N
  ·have hki:(k:Int)<(N:Int):=by omega
   obtain ⟨b1,o1,hae,hl1,hc1⟩:=(HI.out.mono hT.out.b).2 k hlt
   subst hae
   obtain ⟨hp1,hp2⟩:=HP.out k hlt
   rw[hp1] at hc1
   have HSK:=Lib.hid (HS.out k)
   obtain ⟨u0,u1,u2⟩:=hT.out.ol.at hp2
   have hp3:(nat p k:Int)<(N:Int):=by omega
   generalize nat p k=t at hc1 hp2 hp3 HSK u0 u1
   have k1:=Lib.hid (hT.out.set t (k:Int))
   rw[← HSK.out] at k1
   clear hp1
   go_wp2_with fail
   go_roundw
   case rel=>exact ⟨k+1,by omega,by go_num,k1⟩
   case measure=>simp[intOf];omega
  ·have e:k=N:=by omega
   have hki:¬(k:Int)<(N:Int):=by omega
   have HF:=hT.out
   rw[e,HE.out] at HF
   have HF9:=Lib.hid HF
   clear HF e
   go_wp2_with fail
   refine bodyPost_ret (v := .slice (some ⟨w.heap.size,0,none⟩) N N) ?_ rfl ⟨_,rfl,HF9.out.ol,HF9.out.b⟩
   simp[results,Tryz.f90,go_sem]
end
end Go.Proofs.YtmfpdakaeagdpaaGreat
