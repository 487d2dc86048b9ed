/- Texts J13 to J30 of this proof, in one file. -/
import Derived.Test.YtceombamoikhdaaW02
import Derived.Test.YtceombamoikhdaaW05
import Derived.Test.YtceombamoikhdaaW06
namespace Go.Proofs.Ytceombamoikhdaa
set_option maxRecDepth 100000
set_option maxHeartbeats 16000000
section
structure PermL (n:Nat) (p:List Int):Prop where
 len:p.length=n
 nodup:p.Nodup
 num:∀x,x∈p→0≤x∧x<(n:Int)
def nat (p:List Int) (i:Nat):Nat:=(p[i]?.getD 0).toNat
theorem PermL.get {n:Nat} {p:List Int} (P:PermL n p) {i:Nat} (hi:i<n):p[i]?.getD 0=(nat p i:Int)∧nat p i<n:=by
 have h2:=P.num (p[i]?.getD 0) (by rw[List.getElem?_eq_getElem (by rw[P.len];exact hi),Option.getD_some];exact List.getElem_mem _)
 unfold nat
 omega
theorem PermL.inj {n:Nat} {p:List Int} (P:PermL n p) {i j:Nat} (hi:i<n) (hj:j<n) (h:nat p i=nat p j):i=j:=by
 have h1:=(P.get hi).1
 have h2:=(P.get hj).1
 rw[List.getElem?_eq_getElem (by rw[P.len];exact hi),Option.getD_some] at h1
 rw[List.getElem?_eq_getElem (by rw[P.len];exact hj),Option.getD_some] at h2
 exact (List.getElem_inj (h₀:=by rw[P.len];exact hi) (h₁:=by rw[P.len];exact hj) P.nodup).1 (by rw[h1,h2,h])
theorem PermL.onto {n:Nat} {p:List Int} (P:PermL n p) {x:Nat} (hx:x<n):∃i,i<n∧nat p i=x:=by
 have h1:=full_mem P.nodup P.len P.num (x:=(x:Int)) (by omega) (by omega)
 obtain ⟨i,hi,e⟩:=List.getElem_of_mem h1
 refine ⟨i,by rw[← P.len];exact hi,?_⟩
 unfold nat
 rw[List.getElem?_eq_getElem hi,Option.getD_some,e]
 rfl
def sameL (n:Nat):List Int:=(List.range n).map fun (i:Nat)=>(i:Int)
theorem sameL_get {n i:Nat} (hi:i<n):(sameL n)[i]?.getD 0=(i:Int)∧nat (sameL n) i=i:=by
 have:(sameL n)[i]?.getD 0=(i:Int):=by unfold sameL;rw[List.getElem?_map,List.getElem?_range hi];rfl
 unfold nat
 rw[this]
 exact ⟨rfl,rfl⟩
theorem sameL_perm {n:Nat}:PermL n (sameL n):=by
 refine ⟨by unfold sameL;rw[List.length_map,List.length_range],?_,fun x hx=>?_⟩
 ·unfold sameL
  rw[List.nodup_iff_pairwise_ne,List.pairwise_map]
  exact (List.pairwise_lt_range (n:=n)).imp (fun {a b} h e=>by omega)
 ·obtain ⟨i,hi,e⟩:=List.mem_map.1 hx
  rw[List.mem_range] at hi
  omega
def isoPs (n:Nat) (rows cols names cs:List Int):List (Nat × Int):=(List.range (n*n)).map fun c=>(nat rows (c / n)*n+nat cols (c % n),names[nat cs c]?.getD 0)
def isoL (x:Int) (n:Nat) (rows cols names cs:List Int):List Int:=putAll (isoPs n rows cols names cs) (List.replicate (n*n) x)
theorem iso_len {x:Int} {n:Nat} {rows cols names cs:List Int}:(isoL x n rows cols names cs).length=n*n:=by unfold isoL;rw[putAll_len,List.length_replicate]
theorem cell_parts {n c:Nat} (hc:c<n*n):c / n<n∧c % n<n∧c=c / n*n+c % n:=by
 have hn:0<n:=by
  rcases Nat.eq_zero_or_pos n with h|h
  ·subst h;omega
  ·exact h
 exact ⟨Nat.div_lt_of_lt_mul hc,Nat.mod_lt _ hn,(Nat.div_add_mod' c n).symm⟩
theorem isoPs_nodup {n:Nat} {rows cols names cs:List Int} (R:PermL n rows) (K:PermL n cols):((isoPs n rows cols names cs).map (·.1)).Nodup:=by
 unfold isoPs
 rw[List.map_map,List.nodup_iff_pairwise_ne,List.pairwise_map]
 refine (List.pairwise_lt_range (n:=n*n)).imp_of_mem (fun {a b} ha hb hab e=>?_)
 rw[List.mem_range] at ha hb
 obtain ⟨a1,a2,a3⟩:=cell_parts ha
 obtain ⟨b1,b2,b3⟩:=cell_parts hb
 simp only[Function.comp] at e
 have d1:=gcell_div (n:=n) (i:=nat rows (a / n)) (K.get a2).2
 have d2:=gcell_div (n:=n) (i:=nat rows (b / n)) (K.get b2).2
 rw[e] at d1
 have h1:=R.inj a1 b1 (d1.1.symm.trans d2.1)
 have h2:=K.inj a2 b2 (d1.2.symm.trans d2.2)
 rw[h1,h2] at a3
 omega
theorem iso_get {x:Int} {n:Nat} {rows cols names cs:List Int} (R:PermL n rows) (K:PermL n cols) {i j:Nat} (hi:i<n) (hj:j<n):(isoL x n rows cols names cs)[nat rows i*n+nat cols j]?.getD 0=names[nat cs (i*n+j)]?.getD 0:=by
 obtain ⟨d1,d2⟩:=gcell_div (n:=n) (i:=i) hj
 have hm:(nat rows i*n+nat cols j,names[nat cs (i*n+j)]?.getD 0)∈isoPs n rows cols names cs:=by
  refine List.mem_map.2 ⟨i*n+j,List.mem_range.2 (gcell_lt hi hj),?_⟩
  rw[d1,d2]
 have h:=putAll_get (a:=List.replicate (n*n) x) (isoPs_nodup (names:=names) (cs:=cs) R K) hm (by rw[List.length_replicate];exact gcell_lt (R.get hi).2 (K.get hj).2)
 unfold isoL
 rw[h]
 rfl
theorem Latin.nat {n:Nat} {cs:List Int} (L:Latin n cs) {c:Nat} (hc:c<n*n):cs[c]?.getD 0=(nat cs c:Int)∧nat cs c<n:=by
 have:=L.get hc
 unfold Go.Proofs.Ytceombamoikhdaa.nat
 omega
theorem iso_latin {x:Int} {n:Nat} {rows cols names cs:List Int} (L:Latin n cs) (R:PermL n rows) (K:PermL n cols) (M:PermL n names):Latin n (isoL x n rows cols names cs):=by
 have hat:∀p,p<n*n→∃i j,i<n∧j<n∧nat rows i=p / n∧nat cols j=p % n∧(isoL x n rows cols names cs)[p]?.getD 0=(nat names (nat cs (i*n+j)):Int)∧nat names (nat cs (i*n+j))<n:=fun p hp=>by
  obtain ⟨a1,a2,a3⟩:=cell_parts hp
  obtain ⟨i,hi,e1⟩:=R.onto a1
  obtain ⟨j,hj,e2⟩:=K.onto a2
  have h1:=iso_get (x:=x) (names:=names) (cs:=cs) R K hi hj
  rw[e1,e2,← a3] at h1
  have h2:=(L.nat (gcell_lt hi hj)).2
  exact ⟨i,j,hi,hj,e1,e2,by rw[h1,(M.get h2).1],(M.get h2).2⟩
 refine ⟨iso_len,L.pos,L.le,fun y hy=>?_,?_⟩
 ·obtain ⟨p,hp,e⟩:=List.getElem_of_mem hy
  rw[iso_len] at hp
  obtain ⟨i,j,_,_,_,_,h1,h2⟩:=hat p hp
  rw[List.getElem?_eq_getElem (by rw[iso_len];exact hp),Option.getD_some,e] at h1
  omega
 ·rw[once_iff]
  intro p q hp hq hpq hl he
  rw[iso_len] at hp hq
  obtain ⟨i,j,hi,hj,e1,e2,h1,h2⟩:=hat p hp
  obtain ⟨k,m,hk,hm,f1,f2,g1,g2⟩:=hat q hq
  rw[h1,g1] at he
  have h3:nat names (nat cs (i*n+j))=nat names (nat cs (k*n+m)):=by omega
  have c1:=L.nat (gcell_lt hi hj)
  have c2:=L.nat (gcell_lt hk hm)
  have h4:=M.inj c1.2 c2.2 h3
  obtain ⟨d1,d2⟩:=gcell_div (n:=n) (i:=i) hj
  obtain ⟨d3,d4⟩:=gcell_div (n:=n) (i:=k) hm
  have hne:i*n+j≠k*n+m:=fun e=>by
   rw[e] at d1 d2
   have a1:k=i:=d3.symm.trans d1
   have a2:m=j:=d4.symm.trans d2
   subst a1 a2
   have b1:=(cell_parts hp).2.2
   have b2:=(cell_parts hq).2.2
   rw[← e1,← e2] at b1
   rw[← f1,← f2] at b2
   omega
  have hl2:lineB n (i*n+j) (k*n+m)=true:=by
   unfold lineB at hl ⊢
   rw[Bool.or_eq_true,beq_iff_eq,beq_iff_eq] at hl ⊢
   rw[d1,d2,d3,d4]
   rcases hl with h|h
   ·exact Or.inl (R.inj hi hk (by rw[e1,f1,h]))
   ·exact Or.inr (K.inj hj hm (by rw[e2,f2,h]))
  have:=once_iff.1 L.once _ _ (by rw[L.len];exact gcell_lt hi hj) (by rw[L.len];exact gcell_lt hk hm) hne hl2 (by rw[c1.1,c2.1,h4])
  omega
def rowZ (n:Nat) (cs:List Int):List Int:=cs.take n
def colZ (n:Nat) (cs:List Int):List Int:=(List.range n).map fun i=>cs[i*n]?.getD 0
def reduL (x:Int) (n:Nat) (cs:List Int):List Int:=isoL x n (colZ n (isoL x n (sameL n) (rowZ n cs) (sameL n) cs)) (sameL n) (sameL n) (isoL x n (sameL n) (rowZ n cs) (sameL n) cs)
theorem Latin.rowZ {n:Nat} {cs:List Int} (L:Latin n cs):PermL n (rowZ n cs):=by
 have hle:n≤n*n:=Nat.le_mul_of_pos_left n (by have:=L.pos;omega)
 have hlen:(Go.Proofs.Ytceombamoikhdaa.rowZ n cs).length=n:=by unfold Go.Proofs.Ytceombamoikhdaa.rowZ;rw[List.length_take,L.len];omega
 refine ⟨hlen,?_,fun x hx=>L.num x (List.mem_of_mem_take hx)⟩
 rw[List.nodup_iff_pairwise_ne,List.pairwise_iff_getElem]
 intro i j hi hj hij e
 have e2:(Go.Proofs.Ytceombamoikhdaa.rowZ n cs)[i]?=(Go.Proofs.Ytceombamoikhdaa.rowZ n cs)[j]?:=by rw[List.getElem?_eq_getElem hi,List.getElem?_eq_getElem hj,e]
 clear e
 rw[hlen] at hi hj
 unfold Go.Proofs.Ytceombamoikhdaa.rowZ at e2
 rw[List.getElem?_take,List.getElem?_take,if_pos hi,if_pos hj] at e2
 have hl:=L.len
 have h1:=once_iff.1 L.once i j (by omega) (by omega) (by omega) (by unfold lineB;rw[Nat.div_eq_of_lt hi,Nat.div_eq_of_lt hj];simp) (by rw[e2])
 have h2:=L.get (c:=i) (by omega)
 omega
theorem Latin.colZ {n:Nat} {cs:List Int} (L:Latin n cs):PermL n (colZ n cs):=by
 have hpos:=L.pos
 have hc:∀i,i<n→i*n<n*n:=fun i hi=>Nat.mul_lt_mul_of_pos_right hi (by omega)
 refine ⟨by unfold Go.Proofs.Ytceombamoikhdaa.colZ;rw[List.length_map,List.length_range],?_,fun x hx=>?_⟩
 ·unfold Go.Proofs.Ytceombamoikhdaa.colZ
  rw[List.nodup_iff_pairwise_ne,List.pairwise_map]
  refine (List.pairwise_lt_range (n:=n)).imp_of_mem (fun {a b} ha hb hab e=>?_)
  rw[List.mem_range] at ha hb
  have hne:a*n≠b*n:=fun e2=>by have:=Nat.eq_of_mul_eq_mul_right (by omega) e2;omega
  have h1:=once_iff.1 L.once (a*n) (b*n) (by rw[L.len];exact hc a ha) (by rw[L.len];exact hc b hb) hne (by unfold lineB;rw[Nat.mul_mod_left,Nat.mul_mod_left];simp) e
  have h2:=L.get (hc a ha)
  omega
 ·obtain ⟨i,hi,e⟩:=List.mem_map.1 hx
  rw[← e]
  exact L.get (hc i (List.mem_range.1 hi))
theorem redu_latin {x:Int} {n:Nat} {cs:List Int} (L:Latin n cs):Latin n (reduL x n cs):=by
 have h1:=iso_latin (x:=x) L sameL_perm L.rowZ sameL_perm
 exact iso_latin h1 h1.colZ sameL_perm sameL_perm
theorem redu_frame {x:Int} {n:Nat} {cs:List Int} (L:Latin n cs):(∀j,j<n→(reduL x n cs)[j]?.getD 0=(j:Int))∧∀i,i<n→(reduL x n cs)[i*n]?.getD 0=(i:Int):=by
 have hpos:=L.pos
 have h1:=iso_latin (x:=x) L sameL_perm L.rowZ sameL_perm
 have hz:∀{c:Nat},c<n*n→nat (isoL x n (sameL n) (Go.Proofs.Ytceombamoikhdaa.rowZ n cs) (sameL n) cs) c<n:=fun hc=>(h1.nat hc).2
 have hle:n≤n*n:=Nat.le_mul_of_pos_left n hpos
 -- the first row after the columns moved
 have hrow:∀j,j<n→(isoL x n (sameL n) (Go.Proofs.Ytceombamoikhdaa.rowZ n cs) (sameL n) cs)[j]?.getD 0=(j:Int):=fun j hj=>by
  obtain ⟨k,hk,e⟩:=L.rowZ.onto hj
  have h2:=iso_get (x:=x) (names:=sameL n) (cs:=cs) sameL_perm L.rowZ hpos hk
  rw[(sameL_get hpos).2,e,Nat.zero_mul,Nat.zero_add,Nat.zero_add] at h2
  rw[h2]
  have h3:nat cs k=j:=by
   rw[← e]
   unfold nat Go.Proofs.Ytceombamoikhdaa.rowZ
   rw[List.getElem?_take_of_lt hk]
  rw[h3]
  exact (sameL_get hj).1
 have hcz:∀i,i<n→nat (Go.Proofs.Ytceombamoikhdaa.colZ n (isoL x n (sameL n) (Go.Proofs.Ytceombamoikhdaa.rowZ n cs) (sameL n) cs)) i=nat (isoL x n (sameL n) (Go.Proofs.Ytceombamoikhdaa.rowZ n cs) (sameL n) cs) (i*n):=fun i hi=>by
  unfold nat Go.Proofs.Ytceombamoikhdaa.colZ
  rw[List.getElem?_map,List.getElem?_range hi]
  rfl
 constructor
 ·intro j hj
  have h2:=iso_get (x:=x) (names:=sameL n) (cs:=isoL x n (sameL n) (Go.Proofs.Ytceombamoikhdaa.rowZ n cs) (sameL n) cs) h1.colZ sameL_perm hpos hj
  have h0:nat (isoL x n (sameL n) (Go.Proofs.Ytceombamoikhdaa.rowZ n cs) (sameL n) cs) 0=0:=by unfold nat;rw[hrow 0 hpos];rfl
  have hj0:nat (isoL x n (sameL n) (Go.Proofs.Ytceombamoikhdaa.rowZ n cs) (sameL n) cs) j=j:=by unfold nat;rw[hrow j hj];rfl
  rw[hcz 0 hpos,(sameL_get hj).2,Nat.zero_mul,Nat.zero_add,h0,hj0,Nat.zero_mul,Nat.zero_add,(sameL_get hj).1] at h2
  exact h2
 ·intro i hi
  obtain ⟨k,hk,e⟩:=h1.colZ.onto hi
  have h2:=iso_get (x:=x) (names:=sameL n) (cs:=isoL x n (sameL n) (Go.Proofs.Ytceombamoikhdaa.rowZ n cs) (sameL n) cs) h1.colZ sameL_perm hk hpos
  rw[e,(sameL_get hpos).2,Nat.add_zero,Nat.add_zero,← hcz k hk,e,(sameL_get hi).1] at h2
  exact h2
end
section
open Go Go.RowKit
attribute [local go_sem] over_cell
attribute [local go_sem] Oper.semAt_some
theorem isof_c (i j:Int) (w:World):Calls Try.prog 64 #[.int .i64 i,.int .i64 j] w fun e w'=>e = .returned (.int .i64 (-1))∧Below w.heap.size w w':=by
 go_enter Try.func64,Try.ntmps64
 go_wp2
 go_ret
 exact ⟨rfl,Below.refl _ _⟩
theorem enterIso:∀args w,Sem.run Try.prog (callFunc 64 args) w = .ok (.enter 64 args) w:=by
 intro args w;kernel_rfl
theorem made_const (x:Int) (N:Nat) (k:Nat):madeTo N (fun _ _=>x) k=List.replicate k x:=by
 unfold madeTo
 induction k with
 | zero=>rfl
 | succ k ih=>rw[List.range_succ,List.map_append,ih,List.replicate_succ'];rfl
def isoTo (n:Nat) (rows cols names cs:List Int) (k:Nat):List Int:=putAll ((List.range k).map fun c=>(nat rows (c / n)*n+nat cols (c % n),names[nat cs c]?.getD 0)) (List.replicate (n*n) (-1))
theorem isoTo_len (n:Nat) (rows cols names cs:List Int) (k:Nat):(isoTo n rows cols names cs k).length=n*n:=by unfold isoTo;rw[putAll_len,List.length_replicate]
theorem isoTo_succ (n:Nat) (rows cols names cs:List Int) (k:Nat):isoTo n rows cols names cs (k+1)=(isoTo n rows cols names cs k).set (nat rows (k / n)*n+nat cols (k % n)) (names[nat cs k]?.getD 0):=by
 unfold isoTo
 rw[List.range_succ,List.map_append,List.map_singleton,putAll_snoc]
theorem isoTo_end (n:Nat) (rows cols names cs:List Int):isoTo n rows cols names cs (n*n)=isoL (-1) n rows cols names cs:=rfl
structure NumL (n:Nat) (p:List Int):Prop where
 len:p.length=n
 num:∀x,x∈p→0≤x∧x<(n:Int)
theorem NumL.get {n:Nat} {p:List Int} (P:NumL n p) {i:Nat} (hi:i<n):p[i]?.getD 0=(nat p i:Int)∧nat p i<n:=by
 unfold nat
 rw[List.getElem?_eq_getElem (by rw[P.len];exact hi),Option.getD_some]
 have:=P.num _ (List.getElem_mem (by rw[P.len];exact hi:i<p.length))
 omega
theorem wrapmul {a b p:Nat} (hp:p=a*b) (h:p≤1000000):wrap64 ((a:Int)*(b:Int))=(p:Int):=by
 rw[← Int.natCast_mul,← hp];unfold wrap64;omega
theorem wrapadd {a b p:Nat} (hp:p=a+b) (h:p≤1000000):wrap64 ((a:Int)+(b:Int))=(p:Int):=by
 rw[← Int.natCast_add,← hp];unfold wrap64;omega
def IsoI (W0:World) (b b9 g:Nat) (n:Int) (m c:Nat) (a:Option Addr) (c2:Nat) (xs:List Int) (W:World):Prop :=
 W.heap[b]?=some (.cells #[.int .i64 n,.int .i64 n,.slice a m c] 24 (0,0))∧W.heap[b+1]?=some (.cells #[.int .i64 0,.int .i64 0,.slice none 0 0] 24 (0,0)) ∧
  W.heap[b9]?=some (.cells #[.int .i64 n,.int .i64 n,.slice (some ⟨g,0,none⟩) m c2] 24 (0,0))∧W.ownsRow W0.heap.size 3 1 (.slice (some ⟨g,0,none⟩) m c2) m (xs.map (Value.int .i64))∧Below W0.heap.size W0 W
theorem isotope_c (n:Nat) (a:Option Addr) (m c:Nat) (cs:List Int) (ar:Option Addr) (cr:Nat) (rows:List Int) (ak:Option Addr) (ck:Nat) (cols:List Int) (an:Option Addr) (cn:Nat) (names:List Int) (w:World)
  (h:IC w a m cs) (S:Sq n cs) (hr:IC w ar n rows) (R:NumL n rows) (hk:IC w ak n cols) (K:NumL n cols) (hn:IC w an n names) (N:NumL n names) :
  Calls Try.prog 54 #[.agg #[.int .i64 (n:Int),.int .i64 (n:Int),.slice a m c],.slice ar n cr,.slice ak n ck,.slice an n cn] w (GridM w (n:Int) (n:Int) (isoL (-1) n rows cols names cs)):=by
 have hm:=h.small
 have hn1:=S.n1
 have hn2:=S.n2
 have hmq:m=n*n:=by rw[← h.len,S.len]
 have hmb:m≤256:=by rw[hmq];exact Nat.le_trans (Nat.mul_le_mul hn2 hn2) (by decide)
 rw[← isoTo_end,← hmq]
 have HMQ:=Lib.hid hmq
 clear hmq
 go_enter Try.func54,Try.ntmps54
 go_upto_region 1 with fail
 have fsz:((w.alloc (.cells #[.int .i64 (n:Int),.int .i64 (n:Int),.slice a m c] 24)).alloc (.cells #[.int .i64 0,.int .i64 0,.slice none 0 0] 24)).heap.size=w.heap.size+2:=by simp only[World.size_alloc] <;> omega
 have fB:Below w.heap.size w ((w.alloc (.cells #[.int .i64 (n:Int),.int .i64 (n:Int),.slice a m c] 24)).alloc (.cells #[.int .i64 0,.int .i64 0,.slice none 0 0] 24)):=((Below.refl _ _).alloc (Nat.le_refl _) _).alloc (by simp only[World.size_alloc];omega) _
 have fq0:((w.alloc (.cells #[.int .i64 (n:Int),.int .i64 (n:Int),.slice a m c] 24)).alloc (.cells #[.int .i64 0,.int .i64 0,.slice none 0 0] 24)).heap[w.heap.size]?=some (.cells #[.int .i64 (n:Int),.int .i64 (n:Int),.slice a m c] 24 (0,0)):=by have h:=World.alloc_heap_new w (.cells #[.int .i64 (n:Int),.int .i64 (n:Int),.slice a m c] 24);exact (Below.heap_alloc _ _ _ (by simp only[World.size_alloc];omega)).trans (h)
 have fq1:((w.alloc (.cells #[.int .i64 (n:Int),.int .i64 (n:Int),.slice a m c] 24)).alloc (.cells #[.int .i64 0,.int .i64 0,.slice none 0 0] 24)).heap[w.heap.size+1]?=some (.cells #[.int .i64 0,.int .i64 0,.slice none 0 0] 24 (0,0)):=by have h:=World.alloc_heap_new (w.alloc (.cells #[.int .i64 (n:Int),.int .i64 (n:Int),.slice a m c] 24)) (.cells #[.int .i64 0,.int .i64 0,.slice none 0 0] 24);simp only[World.size_alloc] at h;exact h
 generalize ((w.alloc (.cells #[.int .i64 (n:Int),.int .i64 (n:Int),.slice a m c] 24)).alloc (.cells #[.int .i64 0,.int .i64 0,.slice none 0 0] 24))=W0 at fsz fB fq0 fq1 ⊢
 have H:=Lib.hid (h.mono fB)
 have HR:=Lib.hid (hr.mono fB)
 have HK:=Lib.hid (hk.mono fB)
 have HN:=Lib.hid (hn.mono fB)
 clear h hr hk hn
 obtain ⟨x0,x1,x2,xl⟩:=c3_of fq0
 have Q0:=Lib.hid fq0
 have Q1:=Lib.hid fq1
 have hl1:=q_lt fq1
 have HL2:=Lib.hid hl1
 have HM:=Lib.hid (made_g n (by omega) 64 #[] #[] (fun _ _ => -1) (isoTo n rows cols names cs 0) W0 (by rw[made_const];rfl) enterIso (fun i j _ _ W _=>isof_c (i:Int) (j:Int) W))
 clear fsz fq0 fq1
 go_upto_region 2 with (first|(go_at_call 23;refine HM.out.mono ?_;rintro _ w2 ⟨a2,c2,rfl,hown2,hb2⟩;rw[isoTo_len,← HMQ.out] at hown2;rw[isoTo_len,← HMQ.out]))
 have hm1:0<m:=by rw[HMQ.out];exact Nat.mul_pos hn1 hn1
 obtain ⟨g,cap9,x9,hv9,_⟩:=owns_free hown2 0 hm1
 simp only[Value.slice.injEq] at hv9
 obtain ⟨rfl,_,rfl⟩:=hv9
 have hB2:Hid (Below w.heap.size w w2):=keep_trans fB hb2
 have HGB:=Lib.hid (hown2.lt g rfl)
 have hB3:Below w2.heap.size w2 (w2.alloc (.cells #[.int .i64 (n:Int),.int .i64 (n:Int),.slice (some ⟨g,0,none⟩) m c2] 24)):=(Below.refl _ _).alloc (Nat.le_refl _) _
 have q9:(w2.alloc (.cells #[.int .i64 (n:Int),.int .i64 (n:Int),.slice (some ⟨g,0,none⟩) m c2] 24)).heap[w2.heap.size]?=some (.cells #[.int .i64 (n:Int),.int .i64 (n:Int),.slice (some ⟨g,0,none⟩) m c2] 24 (0,0)):=World.alloc_heap_new _ _
 have hown3:=owns_keep hown2 (fun k _ hl=>hB3.block k hl)
 have p0:=keepq hB3 (keepq hb2 Q0.out)
 have p1:=keepq hB3 (keepq hb2 Q1.out)
 generalize (w2.alloc (.cells #[.int .i64 (n:Int),.int .i64 (n:Int),.slice (some ⟨g,0,none⟩) m c2] 24))=W3 at hB3 q9 hown3 p0 p1 ⊢
 obtain ⟨b9,hb9⟩:∃b9,b9=w2.heap.size:=⟨_,rfl⟩
 rw[← hb9] at q9 HGB ⊢
 have hB03:Hid (Below W0.heap.size W0 W3):=keep_trans hb2 hB3
 have HB9:Hid (W0.heap.size≤b9∧g<b9∧W0.heap.size≤g):=by have:=hb2.size;have:=HGB.out;unfold Hid;omega
 clear hb9 hB3 hb2 hown2 HGB x0 x1 x2 xl hl1
 obtain ⟨x0,x1,x2,xl⟩:=c3_of p0
 have HST:Hid (IsoI W0 w.heap.size b9 g (n:Int) m c a c2 (isoTo n rows cols names cs 0) W3):=⟨p0,p1,q9,hown3,hB03.out⟩
 clear p0 p1 q9 hown3
 go_wp2_with fail
 go_loopw [10,11,18] (fun _ _ s wr=>∃k:Nat,k≤m∧s = .int .i64 k∧Hid (IsoI W0 w.heap.size b9 g (n:Int) m c a c2 (isoTo n rows cols names cs k) wr)) (fun _ _ s _=>m - (intOf s).toNat)
 case atStart=>exact ⟨0,by omega,rfl,HST⟩
 case round =>
  obtain ⟨k,hk,rfl,hI⟩:=hrel
  clear x0 x1 x2 xl
  obtain ⟨p0,p1,q9,hown,hbr⟩:=hI.out
  by_cases hlt:k<m
  ·obtain ⟨b,off,rfl,hb,hc⟩:=(H.out.mono hbr).2 k hlt
   have hki:(k:Int)<(m:Int):=by omega
   have hnI:(n:Int)≠0:=by omega
   have hkn:k<n*n:=by rw[← HMQ.out];exact hlt
   have HSU:=Lib.hid (isoTo_succ n rows cols names cs k)
   obtain ⟨q,hq⟩:∃q,q=k / n:=⟨_,rfl⟩
   obtain ⟨r,hr2⟩:∃r,r=k % n:=⟨_,rfl⟩
   have hqb:q<n:=by rw[hq];exact Nat.div_lt_of_lt_mul hkn
   have hrb:r<n:=by rw[hr2];exact Nat.mod_lt _ (by omega)
   have hdv:wrap64 ((k:Int) / (n:Int))=(q:Int):=by rw[divw (by omega),hq]
   have hmv:(k:Int) % (n:Int)=(r:Int):=by rw[modw,hr2]
   rw[← hq,← hr2] at HSU
   have hx:=S.num k
   obtain ⟨x,hxe⟩:∃x:Nat,x=nat cs k:=⟨_,rfl⟩
   have hxi:cs[k]?.getD 0=(x:Int):=by rw[hxe];unfold nat;omega
   rw[← hxe] at HSU
   rw[hxi] at hc hx
   obtain ⟨rv,hrv⟩:∃v,v=nat rows q:=⟨_,rfl⟩
   obtain ⟨cv,hcv⟩:∃v,v=nat cols r:=⟨_,rfl⟩
   have hrl:=R.get hqb
   have hcl:=K.get hrb
   have hnl:=N.get (i:=x) (by omega)
   rw[← hrv] at hrl HSU
   rw[← hcv] at hcl HSU
   obtain ⟨br,offr,rfl,hbr2,hcr⟩:=(HR.out.mono hbr).2 q hqb
   obtain ⟨bk,offk,rfl,hbk2,hck⟩:=(HK.out.mono hbr).2 r hrb
   obtain ⟨bn,offn,rfl,hbn2,hcn⟩:=(HN.out.mono hbr).2 x (by omega)
   rw[hrl.1] at hcr
   rw[hcl.1] at hck
   obtain ⟨nv,hnv⟩:∃v,v=names[x]?.getD 0:=⟨_,rfl⟩
   rw[← hnv] at hcn HSU
   have hpn:rv*n+cv<n*n:=gcell_lt hrl.2 hcl.2
   rw[← HMQ.out] at hpn
   obtain ⟨p,hp⟩:∃p,p=rv*n:=⟨_,rfl⟩
   rw[← hp] at hpn HSU
   have hmul:wrap64 ((rv:Int)*(n:Int))=(p:Int):=wrapmul hp (by clear hdv hmv;omega)
   obtain ⟨e,he⟩:∃e,e=p+cv:=⟨_,rfl⟩
   have hadd:wrap64 ((p:Int)+(cv:Int))=(e:Int):=wrapadd he (by clear hdv hmv hmul;omega)
   rw[← he] at hpn HSU
   obtain ⟨g2,cap2,x2,hv2,_,hcg,hfg,hgl,_⟩:=owns_free hown e hpn
   simp only[Value.slice.injEq,Option.some.injEq,Addr.mk.injEq,and_true,true_and] at hv2
   obtain ⟨rfl,_⟩:=hv2
   have h1:(q:Int)<(n:Int):=Int.ofNat_lt.2 hqb
   have h2:(r:Int)<(n:Int):=Int.ofNat_lt.2 hrb
   have h3:(x:Int)<(n:Int):=hx.2
   have h4:(e:Int)<(m:Int):=Int.ofNat_lt.2 hpn
   have P0:=Lib.hid p0
   have P1:=Lib.hid p1
   have P9:=Lib.hid q9
   have HOW:=Lib.hid hown
   obtain ⟨y0,y1,y2,yl⟩:=c3_of q9
   obtain ⟨x0,x1,x2,xl⟩:=c3_of p0
   clear he hq hr2 hxe hxi hrv hcv hnv hp hrl hcl hnl p0 p1 q9 hown hx
   go_wp2_with fail
   refine wp_region_S (fun w'=>∃u,w'=over (wr) u) [25] [(0,0),(0,1),(0,2),(0,3),(0,4),(0,5),(0,6),(0,7),(0,8),(0,9),(0,10),(0,11),(0,12),(0,13),(0,14),(0,15),(0,16),(0,17),(0,18),(0,19),(0,20),(0,21),(0,22),(0,23),(0,24),(2,25)] (by kernel_rfl) (by kernel_rfl) (by exact ⟨_,below_over (by repeat (first|assumption|exact Below.refl _ _|refine keep_drew ?_|refine keep_alloc ?_ _|refine keep_trans ?_ (by assumption)))⟩) ?_
   dsimp only[pickOps,nthOp]
   repeat (first|(refine wpS_skip rfl (fun K hK=>?_);go_big_quiet_op;refine hK _ ?_;clear hK K)|(refine wpS_quiet rfl rfl (fun K hK=>?_);go_big_quiet_op;refine hK _ ?_;clear hK K))
   refine wpS_late _ _ _ rfl ?_
   dsimp only[List.map]
   go_wp2_with (fail)
   refine NoPanic.normal ?_
   have hgb:=HB9.out
   have hwW:=fB.size
   have P0':=q_other (i:=e) P0.out (show w.heap.size≠g by have:=HL2.out;omega) (.int .i64 nv)
   have P1':=q_other (i:=e) P1.out (show w.heap.size+1≠g by have:=HL2.out;omega) (.int .i64 nv)
   have P9':=q_other (i:=e) P9.out (show b9≠g by omega) (.int .i64 nv)
   have HOW':=owns_set HOW.out e (.int .i64 nv)
   rw[← List.map_set,← HSU.out] at HOW'
   have hbr':=hbr.setCell (p:=⟨g,e,none⟩) (show W0.heap.size≤g by omega) (.int .i64 nv)
   clear y0 y1 y2 yl x0 x1 x2 xl hc hcr hck hcn hcg hfg
   go_wp2_with fail
   go_roundw
   case rel=>exact ⟨k+1,by omega,by go_num,by first|exact ⟨P0',P1',P9',HOW',hbr'⟩|exact ⟨P0',P1',P9',HOW',hbr'.drew⟩⟩
   case measure=>simp[intOf];omega
  ·have e:k=m:=by omega
   subst e
   obtain ⟨y0,y1,y2,yl⟩:=c3_of q9
   obtain ⟨z0,z1,z2,zl⟩:=c3_of p1
   obtain ⟨zf0,zf1,zf2⟩:=f3_of p1
   have P1:=Lib.hid p1
   have HOW:=Lib.hid hown
   clear p0 p1 q9 hown
   go_wp2_with fail
   have g3:=st3_q (x0 := .int .i64 (n:Int)) (x1 := .int .i64 (n:Int)) (x2 := .slice (some ⟨g,0,none⟩) k c2) P1.out
   have hown3:=st3_own (x0 := .int .i64 (n:Int)) (x1 := .int .i64 (n:Int)) (x2 := .slice (some ⟨g,0,none⟩) k c2) HOW.out (b:=w.heap.size+1) (fun e=>by have h1:=(HOW.out.lt _ e).1;have:=HL2.out;omega)
   have hb3:=st3_below (x0 := .int .i64 (n:Int)) (x1 := .int .i64 (n:Int)) (x2 := .slice (some ⟨g,0,none⟩) k c2) (b:=w.heap.size+1) (fB.trans (hbr.mono fB.size)) (by omega)
   obtain ⟨z0,z1,z2,zl⟩:=c3_of g3
   have hlen:(isoTo n rows cols names cs k).length=k:=by rw[isoTo_len,HMQ.out]
   refine bodyPost_ret (v := .agg #[.int .i64 (n:Int),.int .i64 (n:Int),.slice (some ⟨g,0,none⟩) k c2]) ?_ rfl ⟨_,_,by rw[hlen],by rw[hlen];exact owns_base hown3 fB.size,hb3⟩
   simp[results,Try.f54,go_sem,z0,z1,z2]
theorem sameL_len (n:Nat):(sameL n).length=n:=by simp[sameL]
theorem sameTo_succ (k:Nat):sameL (k+1)=sameL k++[(k:Int)]:=by unfold sameL;rw[List.range_succ,List.map_append];rfl
theorem sameL_num (n:Nat):NumL n (sameL n):=⟨sameL_len n,fun x hx=>by
 unfold sameL at hx
 obtain ⟨i,hi,rfl⟩:=List.mem_map.1 hx
 rw[List.mem_range] at hi
 omega⟩
theorem same4_c (n:Nat) (w:World) (hn:n≤256):Calls Try.prog 55 #[.int .i64 (n:Int)] w fun e w'=>∃a c,e = .returned (.slice a n c)∧w'.ownsRow w.heap.size 3 1 (.slice a n c) n ((sameL n).map (Value.int .i64))∧Below w.heap.size w w':=by
 obtain ⟨i0,hi,hz0,hz1,hz2⟩:=info_parts infoInt
 go_enter Try.func55,Try.ntmps55
 go_wp2_with fail
 go_loopw [3,4,6] (fun v _ s wr=>∃k:Nat,k≤n∧s = .int .i64 k∧wr.ownsRow w.heap.size 3 1 v k ((sameL k).map (Value.int .i64))∧Below w.heap.size w wr) (fun _ _ s _=>n - (intOf s).toNat)
 case atStart=>exact ⟨0,by omega,rfl,World.ownsRow_nil _ _ _ _,Below.refl _ _⟩
 case round =>
  obtain ⟨k,hk,rfl,hown,hbr⟩:=hrel
  have hsz:=hbr.size
  by_cases hlt:k<n
  ·have HSU:=Lib.hid (sameTo_succ k)
   have HO:=Lib.hid hown
   obtain ⟨av,cv,rfl⟩:=owns_shape hown
   clear hown
   go_wp2_with (first|(at_builtin;refine wpList_append_any _ rfl _ _ 22 rfl w.heap.size 3 i0 (.int .i64 0) 8 Try.underlying22 hi hz0 hz1 hz2 rfl _ _ _ rfl (HO.out.alloc _) (by simp only[World.size_alloc];omega) _ _ _ [.int .i64 (k:Int)] rfl rfl (.inl ⟨_,rfl,cell_one_new _ _ _⟩) (by simp[Value.oneCell']) (by unfold maxLen;omega) (by omega) ?_;intro v7 w7 hown7 hst7 hk7;have hbw:=hst7.below' (by simp only[World.size_alloc];omega) (hbr.alloc hsz _) (fun k e=>(HO.out.lt k e).1)))
   go_roundw
   case rel=>exact ⟨k+1,by omega,by go_num,by rw[HSU.out,List.map_append];exact hown7,hbw⟩
   case measure=>simp[intOf];omega
  ·have e:k=n:=by omega
   subst e
   obtain ⟨av,cv,rfl⟩:=owns_shape hown
   go_wp2_with fail
   go_ret
   exact ⟨_,_,rfl,hown,hbr⟩
end
end Go.Proofs.Ytceombamoikhdaa
