/- Texts J99 to J189 of this proof, in one file. -/
import Derived.Test.YtpkghjoippcjeaaW01
import Derived.Test.YtpkghjoippcjeaaW02
import Derived.Test.YtpkghjoippcjeaaW04
import Derived.Test.YtpkghjoippcjeaaW09
import Derived.Test.YtpkghjoippcjeaaW10
import Derived.Test.YtpkghjoippcjeaaW13
import Derived.Laws.IdiomArrays
import Derived.Maps.OwnSet
import Derived.Below
namespace Go.Proofs.Ytpkghjoippcjeaa
set_option maxRecDepth 100000
set_option maxHeartbeats 16000000
section
open Go Go.RowKit
attribute [local go_sem] over_cell
attribute [local go_sem] Oper.semAt_some
theorem Kinds_bad (r C:Int) (a:Option Addr) (m c:Nat) (cs:List Int) (w:World) (h:IC w a m cs) (er:Int) (he:sqE 0 r C cs=er) (h0:er≠0):Calls Try.prog 12 #[.agg #[.int .i64 r,.int .i64 C,.slice a m c]] w (KindsE w [] er):=by
 have HK:=Lib.hid (fun W (hb:Below w.heap.size w W)=>latcheck_c r C a m c cs W (h.mono hb))
 rw[he] at HK
 have h0':(er != 0)=true:=by simpa using h0
 clear he h h0
 go_enter Try.func12,Try.ntmps12
 go_upto_region 1 with fail
 have fsz:(w.alloc (.cells #[.int .i64 r,.int .i64 C,.slice a m c] 31)).heap.size=w.heap.size+1:=by simp only[World.size_alloc]
 have fB:Below w.heap.size w (w.alloc (.cells #[.int .i64 r,.int .i64 C,.slice a m c] 31)):=(Below.refl _ _).alloc (Nat.le_refl _) _
 have fq0:(w.alloc (.cells #[.int .i64 r,.int .i64 C,.slice a m c] 31)).heap[w.heap.size]?=some (.cells #[.int .i64 r,.int .i64 C,.slice a m c] 31 (0,0)):=by have h:=World.alloc_heap_new w (.cells #[.int .i64 r,.int .i64 C,.slice a m c] 31);exact h
 generalize (w.alloc (.cells #[.int .i64 r,.int .i64 C,.slice a m c] 31))=W0 at fsz fB fq0 ⊢
 obtain ⟨x0,x1,x2,xl⟩:=c3_of fq0
 clear fq0 fsz
 go_wp2_with (first|(go_at_call 10;refine (HK.out _ fB).mono ?_;rintro _ w2 ⟨rfl,hb2⟩)|fail)
 refine bodyPost_ret (v := .tuple #[.slice none 0 0,.int .i64 er]) ?_ rfl ⟨none,0,rfl,World.ownsRow_nil _ _ _ _,keep_trans fB hb2⟩
 simp[results,Try.f12,go_sem]
theorem Kinds_ok (N:Nat) (a:Option Addr) (m c:Nat) (cs:List Int) (w:World) (h:IC w a m cs) (hcap:m≤c) (L:Latin N cs) (h0:sqE 0 (N:Int) (N:Int) cs=0):Calls Try.prog 12 #[.agg #[.int .i64 (N:Int),.int .i64 (N:Int),.slice a m c]] w (KindsE w (kNames N cs 7) 0):=by
 obtain ⟨i0,hi,hz0,hz1,hz2⟩:=info_parts infoStr
 have HK:=Lib.hid (fun W (hb:Below w.heap.size w W)=>latcheck_c (N:Int) (N:Int) a m c cs W (h.mono hb))
 rw[h0] at HK
 have HI:=Lib.hid h
 have HL:=Lib.hid L
 clear h h0 L
 go_enter Try.func12,Try.ntmps12
 go_upto_region 1 with fail
 have fsz:(w.alloc (.cells #[.int .i64 (N:Int),.int .i64 (N:Int),.slice a m c] 31)).heap.size=w.heap.size+1:=by simp only[World.size_alloc]
 have fB:Below w.heap.size w (w.alloc (.cells #[.int .i64 (N:Int),.int .i64 (N:Int),.slice a m c] 31)):=(Below.refl _ _).alloc (Nat.le_refl _) _
 have fq0:(w.alloc (.cells #[.int .i64 (N:Int),.int .i64 (N:Int),.slice a m c] 31)).heap[w.heap.size]?=some (.cells #[.int .i64 (N:Int),.int .i64 (N:Int),.slice a m c] 31 (0,0)):=by have h:=World.alloc_heap_new w (.cells #[.int .i64 (N:Int),.int .i64 (N:Int),.slice a m c] 31);exact h
 generalize (w.alloc (.cells #[.int .i64 (N:Int),.int .i64 (N:Int),.slice a m c] 31))=W0 at fsz fB fq0 ⊢
 have Q0:=Lib.hid fq0
 have hs0:w.heap.size+1=W0.heap.size:=fsz.symm
 obtain ⟨x0,x1,x2,xl⟩:=c3_of fq0
 clear fq0 fsz
 go_wp2_with (first|(go_at_call 10;refine (HK.out _ fB).mono ?_;rintro _ w2 ⟨rfl,hb2⟩)|(go_at_call 30;refine (kinds_c _).mono ?_;rintro _ w3 ⟨rfl,hw3⟩;have HW3:=Lib.hid hw3;clear hw3)|fail)
 have hw3:=HW3.out
 have hs2:=hb2.size
 have hb3:Below w2.heap.size w2 w3:=by rw[hw3];exact keep_alloc (Below.refl _ _) _
 have hq3:w3.heap[w2.heap.size]?=some (.cells kCells 72 (0,0)):=by rw[hw3];exact World.alloc_heap_new _ _
 have hs3:w3.heap.size=w2.heap.size+1:=by rw[hw3];simp
 have hB3:Below w.heap.size w w3:=keep_trans (keep_trans fB hb2) hb3
 have Q3:=Lib.hid hq3
 have Q0':=Lib.hid (keepq (keep_trans hb2 hb3) Q0.out)
 have HB3:=Lib.hid hB3
 clear hw3 HW3 hb3 hq3 hB3 hb2 fB x0 x1 x2 xl
 go_loopw [5,7,15] (fun s5 _ s15 wr=>∃k:Nat,k≤7∧s15 = .int .i64 (k:Int)∧Hid (Below w3.heap.size w3 wr)∧Hid (wr.ownsRow w3.heap.size 9 1 s5 (kindTo N cs k).length ((kindTo N cs k).map fun i => .string (kStr i)))) (fun _ _ s15 _=>7 - (intOf s15).toNat)
 case atStart=>exact ⟨0,by omega,rfl,Below.refl _ _,World.ownsRow_nil _ _ _ _⟩
 case round =>
  obtain ⟨k,hk,rfl,hB,hO⟩:=hrel
  obtain ⟨av,cv,hs5⟩:=owns_shape hO.out
  subst hs5
  by_cases hlt:k<7
  ·have hki:(k:Int)<7:=by omega
   obtain ⟨y0,y1⟩:=k_cells (keepq hB.out Q3.out) hlt
   obtain ⟨x0,x1,x2,xl⟩:=c3_of (keepq hB.out Q0'.out)
   have hE:=enterK k hlt
   have hC:=fun W (hb:Below w.heap.size w W)=>kall_c N a m c cs k hlt W (HI.out.mono hb) hcap HL.out
   have hT:=kindTo_succ N cs k
   have hlen:(kindTo N cs k).length≤k:=by unfold kindTo;exact Nat.le_trans (List.length_filter_le _ _) (by simp)
   generalize kFn k=fk at y1 hE hC
   generalize (kindsB N cs)[k]?.getD false=bb at hC hT
   have HC:=Lib.hid hC
   have HT:=Lib.hid hT
   clear hC hT
   cases bb with
   | true =>
    have hO4:=hO.out.alloc (.cells #[.string (kStr k),.func (.func fk) #[] #[]] 72)
    have hwr:=hB.out.size
    have hA:Below wr.heap.size wr (wr.alloc (.cells #[.string (kStr k),.func (.func fk) #[] #[]] 72)):=keep_alloc (Below.refl _ _) _
    have q4:=World.alloc_heap_new wr (.cells #[.string (kStr k),.func (.func fk) #[] #[]] 72)
    have HA:=Lib.hid hA
    have HO4:=Lib.hid hO4
    have Q4:=Lib.hid q4
    clear hA hO4 q4
    go_wp2_with (first|(with_reducible refine (HC.out _ (keep_trans HB3.out (keep_trans hB.out HA.out))).mono ?_;rintro _ w5 ⟨rfl,hb5⟩;have hO5:=owns_keep HO4.out (fun j _ hl=>hb5.block j hl);have z0:=q_cell (keepq hb5 Q4.out) 0;have hs5:=hb5.size;simp only[World.size_alloc] at hs5)|(at_builtin;refine wpList_append_any _ rfl _ _ 41 rfl w3.heap.size 9 i0 (.string ⟨#[]⟩) 16 Try.underlying41 hi hz0 hz1 hz2 rfl _ _ _ rfl (hO5.alloc _) (by simp only[World.size_alloc];omega) _ _ _ [.string (kStr k)] rfl rfl (.inl ⟨_,rfl,cell_one_new _ _ _⟩) (by simp[Value.oneCell']) (by unfold maxLen;omega) (by omega) ?_;intro v7 w7 hown7 hst7 hk7;have hb7:=hst7.below' (B:=w3.heap.size) (w0:=w3) (by simp only[World.size_alloc];omega) (keep_alloc (keep_trans (keep_trans hB.out HA.out) hb5) _) (fun j e=>(hO5.lt j e).1))|fail)
    go_roundw
    case rel=>exact ⟨k+1,by omega,by go_num,hb7,by rw[HT.out,if_pos trivial,List.length_append,List.map_append];exact hown7⟩
    case measure=>simp[intOf];omega
   | false =>
    have HA:Hid (Below wr.heap.size wr (wr.alloc (.cells #[.string (kStr k),.func (.func fk) #[] #[]] 72))):=keep_alloc (Below.refl _ _) _
    go_wp2_with (first|(with_reducible refine (HC.out _ (keep_trans HB3.out (keep_trans hB.out HA.out))).mono ?_;rintro _ w5 ⟨rfl,hb5⟩)|fail)
    go_roundw
    case rel=>exact ⟨k+1,by omega,by go_num,keep_trans (keep_trans hB.out HA.out) hb5,by rw[HT.out,if_neg (by simp)];exact owns_keep (hO.out.alloc _) (fun j _ hl=>hb5.block j hl)⟩
    case measure=>simp[intOf];omega
  ·have e:k=7:=by omega
   have hno:¬(k:Int)<7:=by omega
   have hO9:wr.ownsRow w.heap.size 9 1 (.slice av (kNames N cs 7).length cv) (kNames N cs 7).length ((kNames N cs 7).map Value.string):=by
    rw[e] at hO
    have:=owns_base hO.out (show w.heap.size≤w3.heap.size from HB3.out.size)
    unfold kNames
    rw[List.length_map,List.map_map]
    exact this
   have hl:(kindTo N cs k).length=(kNames N cs 7).length:=by rw[e];simp[kNames]
   rw[hl]
   have HO9:=Lib.hid hO9
   clear hO9 hO hl e
   go_wp2_with fail
   refine bodyPost_ret (v := .tuple #[.slice av (kNames N cs 7).length cv,.int .i64 0]) ?_ rfl ⟨av,cv,rfl,HO9.out,keep_trans HB3.out hB.out⟩
   simp[results,Try.f12,go_sem]
theorem Kinds_c (r C:Int) (a:Option Addr) (m c:Nat) (cs:List Int) (w:World) (h:IC w a m cs) (hcap:m≤c):Calls Try.prog 12 #[.agg #[.int .i64 r,.int .i64 C,.slice a m c]] w (KindsE w (kiL r C cs) (sqE 0 r C cs)):=by
 by_cases h0:sqE 0 r C cs=0
 ·obtain ⟨N,rfl,rfl,L⟩:=sqE_ok h0
  rw[show kiL (N:Int) (N:Int) cs=kNames N cs 7 from if_pos h0,h0]
  exact Kinds_ok N a m c cs w h hcap L h0
 ·rw[show kiL r C cs=[] from if_neg h0]
  exact Kinds_bad r C a m c cs w h _ rfl h0
end
section
theorem lat_sqE {n:Nat} {cs:List Int} (L:Latin n cs):sqE 0 (n:Int) (n:Int) cs=0:=by
 have h1:sqB (n:Int) (n:Int) cs=true:=by
  unfold sqB
  rw[L.len,← Int.natCast_mul]
  simp only[Bool.and_eq_true,decide_eq_true_eq]
  exact ⟨⟨⟨trivial,by have:=L.pos;omega⟩,by have:=L.le;omega⟩,trivial⟩
 unfold sqE
 rw[if_pos h1]
 unfold symE
 rw[if_neg,if_neg]
 ·rw[Int.toNat_natCast,L.once];decide
 ·rw[Bool.not_eq_true,List.any_eq_false]
  intro x hx
  have:=L.num x hx
  simp only[Bool.or_eq_true,decide_eq_true_eq,Int.toNat_natCast]
  omega
theorem Latin.rinj {n:Nat} {cs:List Int} (L:Latin n cs) {i j k:Nat} (hi:i<n) (hj:j<n) (hk:k<n) (h:Go.Proofs.Ytpkghjoippcjeaa.nat cs (i*n+j)=Go.Proofs.Ytpkghjoippcjeaa.nat cs (i*n+k)):j=k:=by
 by_cases e:j=k
 ·exact e
 ·have h1:=L.nat (gcell_lt hi hj)
  have h2:=L.nat (gcell_lt hi hk)
  have h3:=once_iff.1 L.once (i*n+j) (i*n+k) (by rw[L.len];exact gcell_lt hi hj) (by rw[L.len];exact gcell_lt hi hk) (by omega) (by unfold lineB;rw[(gcell_div hj).1,(gcell_div hk).1];simp) (by rw[h1.1,h2.1,h])
  omega
theorem Latin.cinj {n:Nat} {cs:List Int} (L:Latin n cs) {i j k:Nat} (hi:i<n) (hj:j<n) (hk:k<n) (h:Go.Proofs.Ytpkghjoippcjeaa.nat cs (i*n+j)=Go.Proofs.Ytpkghjoippcjeaa.nat cs (k*n+j)):i=k:=by
 by_cases e:i=k
 ·exact e
 ·have h1:=L.nat (gcell_lt hi hj)
  have h2:=L.nat (gcell_lt hk hj)
  have h3:=once_iff.1 L.once (i*n+j) (k*n+j) (by rw[L.len];exact gcell_lt hi hj) (by rw[L.len];exact gcell_lt hk hj) (fun e2=>e (by have:=congrArg (· / n) e2;simp only[(gcell_div hj).1] at this;exact this)) (by unfold lineB;rw[(gcell_div hj).2,(gcell_div hj).2];simp) (by rw[h1.1,h2.1,h])
  omega
theorem inj_onto {n:Nat} {f:Nat→Nat} (hf:∀i,i<n→f i<n) (hi:∀i j,i<n→j<n→f i=f j→i=j) {x:Nat} (hx:x<n):∃i,i<n∧f i=x:=by
 have hm:=full_mem (n:=n) (l:=(List.range n).map fun i=>((f i:Nat):Int)) (by
  rw[List.nodup_iff_pairwise_ne,List.pairwise_map]
  refine (List.pairwise_lt_range (n:=n)).imp_of_mem (fun {a b} ha hb hab e=>?_)
  rw[List.mem_range] at ha hb
  have:=hi a b ha hb (by omega)
  omega) (by rw[List.length_map,List.length_range]) (fun y hy=>by
  obtain ⟨j,hj,e⟩:=List.mem_map.1 hy
  have:=hf j (List.mem_range.1 hj)
  omega) (x:=(x:Int)) (by omega) (by omega)
 obtain ⟨i,h1,e⟩:=List.mem_map.1 hm
 exact ⟨i,List.mem_range.1 h1,by omega⟩
theorem ortho_iff {n:Nat} {cs ds:List Int} (L:Latin n cs) (D:Latin n ds):Ortho cs ds↔∀i j i' j',i<n→j<n→i'<n→j'<n→nat cs (i*n+j)=nat cs (i'*n+j')→nat ds (i*n+j)=nat ds (i'*n+j')→i=i'∧j=j':=by
 constructor
 ·intro h i j i' j' hi hj hi' hj' h1 h2
  have e1:=L.nat (gcell_lt hi hj)
  have e2:=L.nat (gcell_lt hi' hj')
  have e3:=D.nat (gcell_lt hi hj)
  have e4:=D.nat (gcell_lt hi' hj')
  have hp:pairEq cs ds (i*n+j) (i'*n+j')=true:=by
   unfold pairEq
   rw[e1.1,e2.1,e3.1,e4.1,h1,h2];simp
  have hp':pairEq cs ds (i'*n+j') (i*n+j)=true:=by
   unfold pairEq
   rw[e1.1,e2.1,e3.1,e4.1,h1,h2];simp
  have he:i*n+j=i'*n+j':=by
   rcases Nat.lt_trichotomy (i*n+j) (i'*n+j') with e|e|e
   ·rw[h _ _ e (by rw[L.len];exact gcell_lt hi' hj')] at hp;cases hp
   ·exact e
   ·rw[h _ _ e (by rw[L.len];exact gcell_lt hi hj)] at hp';cases hp'
  have d1:=gcell_div (i:=i) hj
  have d2:=gcell_div (i:=i') hj'
  rw[he] at d1
  exact ⟨by omega,by omega⟩
 ·intro h c d hcd hd
  rw[L.len] at hd
  rw[Bool.eq_false_iff]
  intro hp
  unfold pairEq at hp
  rw[Bool.and_eq_true,beq_iff_eq,beq_iff_eq] at hp
  obtain ⟨a1,a2,a3⟩:=cell_parts (show c<n*n by omega)
  obtain ⟨b1,b2,b3⟩:=cell_parts hd
  have:=h (c / n) (c % n) (d / n) (d % n) a1 a2 b1 b2 (by rw[← a3,← b3];unfold nat;rw[hp.1]) (by rw[← a3,← b3];unfold nat;rw[hp.2])
  rw[this.1,this.2] at a3
  omega
end
section
open Go Go.RowKit
attribute [local go_sem] over_cell
attribute [local go_sem] Oper.semAt_some
def SC (w:World) (a:Option Addr) (n:Nat) (l:List ByteArray):Prop:=(l.length=n∧n≤1000)∧∀k,k<n→∃b off,a=some ⟨b,off,none⟩∧b<w.heap.size∧w.cell? ⟨b,off+k,none⟩=some (.string (l[k]?.getD ⟨#[]⟩))
theorem SC.mono {w w':World} {a:Option Addr} {n:Nat} {l:List ByteArray} (h:SC w a n l) (hb:Below w.heap.size w w'):SC w' a n l :=
 ⟨h.1,fun k hk=>by
  obtain ⟨b,off,e,hl,hc⟩:=h.2 k hk
  exact ⟨b,off,e,Nat.lt_of_lt_of_le hl hb.size,(hb.cell (p:=⟨b,off+k,none⟩) hl).trans hc⟩⟩
end
section
open Go Go.RowKit
theorem hold_size (o:Obj) (b:Nat) (u:World):b<(hold o b u).heap.size:=q_lt (hold_heap o b u)
theorem hold_above (o:Obj) (b:Nat) (u:World) {k:Nat} (hk:b<k) (hb:b<u.heap.size):(hold o b u).heap[k]?=u.heap[k]?:=by
 simp only[hold,List.getElem?_toArray]
 rw[show b - u.heap.size=0 from by omega,List.replicate_zero,List.append_nil,List.getElem?_append_right (by simp;omega),show k - (u.heap.toList.take b).length=(k - b - 1)+1 from by simp;omega,List.getElem?_cons_succ,List.getElem?_drop,Array.getElem?_toList]
 congr 1
 omega
section
variable (v0 v1 v2:Value) (T:TypeId) (b:Nat) (o:Obj) (u:World)
end
end
section
open Go Go.RowKit Go.ChangeShapes Go.WideShapes
section
variable {H:Type} {enc:TypeId × Value→H} {P:Program} {w:World} {base:Nat} {spare:Nat→Bool} {held:Bool}
theorem O7.trod2 {t e:TypeId} {fuel:Nat} {c0 c1:Value} {x:DataW H × List MemPlace} (ht:P.underlying t=some (.array 2 e)) (hce:P.cellsOf e=1)
  (h:DataW.trod enc P w base spare held fuel t [c0,c1]=some x) :
  ∃y0 y1 n,DataW.trod enc P w base spare held n e [c0]=some y0∧DataW.trod enc P w base spare held n e [c1]=some y1:=by
 cases fuel with
 | zero=>simp[DataW.trod] at h
 | succ n =>
  unfold DataW.trod at h
  rw[ht] at h
  have r2:List.range 2=[0,1]:=rfl
  simp[r2,hce] at h
  obtain ⟨_,h⟩:=h
  cases h0:DataW.trod enc P w base spare held n e [c0] with
  | none=>simp[h0] at h
  | some y0 =>
   cases h1:DataW.trod enc P w base spare held n e [c1] with
   | none=>simp[h0,h1] at h
   | some y1=>exact ⟨y0,y1,n,h0,h1⟩
end
section
variable {H:Type} {enc:TypeId × Value→H} {w:World} {held:Bool}
theorem O7.cellsP:Try.prog.cellsOf 22=2:=by kernel_rfl
end
end
section
theorem made_nat {N:Nat} {s:Nat→Nat→Int} {i j:Nat} (hi:i<N) (hj:j<N):nat (madeTo N s (N*N)) (i*N+j)=(s i j).toNat:=by
 have hlt:=gcell_lt hi hj
 have hd:=gcell_div (n:=N) (i:=i) hj
 unfold Go.Proofs.Ytpkghjoippcjeaa.nat madeTo
 rw[List.getElem?_map,List.getElem?_range hlt,Option.map_some,Option.getD_some,hd.1,hd.2]
theorem made_latin {N:Nat} {s:Nat→Nat→Int} (h1:1≤N) (h16:N≤16) (hr:∀i j,i<N→j<N→0≤s i j∧s i j<(N:Int)) (hc:∀i j k,i<N→j<N→k<N→s i j=s i k→j=k) (hk:∀i k j,i<N→k<N→j<N→s i j=s k j→i=k):Latin N (madeTo N s (N*N)):=by
 have hl:(madeTo N s (N*N)).length=N*N:=madeTo_len _ _ _
 have hat:∀p,p<N*N→(madeTo N s (N*N))[p]?.getD 0=s (p / N) (p % N):=fun p hp=>by
  unfold madeTo
  rw[List.getElem?_map,List.getElem?_range hp]
  rfl
 refine ⟨hl,h1,h16,fun x hx=>?_,?_⟩
 ·obtain ⟨p,hp,e⟩:=List.getElem_of_mem hx
  rw[hl] at hp
  have h2:=hat p hp
  rw[List.getElem?_eq_getElem (by rw[hl];exact hp),Option.getD_some,e] at h2
  obtain ⟨c1,c2,_⟩:=cell_parts hp
  rw[h2]
  exact hr _ _ c1 c2
 ·rw[once_iff]
  intro p r hp hrr hpr hln he
  rw[hl] at hp hrr
  rw[hat p hp,hat r hrr] at he
  obtain ⟨c1,c2,c3⟩:=cell_parts hp
  obtain ⟨d1,d2,d3⟩:=cell_parts hrr
  unfold lineB at hln
  rw[Bool.or_eq_true,beq_iff_eq,beq_iff_eq] at hln
  exfalso
  rcases hln with e|e
  ·rw[← e] at he
   have:=hc _ _ _ c1 c2 d2 he
   rw[← e,← this] at d3
   omega
  ·rw[← e] at he
   have:=hk _ _ _ c1 d1 c2 he
   rw[← e,← this] at d3
   omega
theorem mul_cancel {N:Nat} {a:Int} (hg:Int.gcd a (N:Int)=1) {i k:Nat} (hi:i<N) (hk:k<N) (h:(N:Int) ∣ a*((i:Int) - (k:Int))):i=k:=by
 have h2:N ∣ a.natAbs*((i:Int) - (k:Int)).natAbs:=by
  have:=Int.natAbs_dvd_natAbs.2 h
  rw[Int.natAbs_natCast,Int.natAbs_mul] at this
  exact this
 have hc:Nat.Coprime N a.natAbs:=by
  unfold Int.gcd at hg
  rw[Int.natAbs_natCast,Nat.gcd_comm] at hg
  exact hg
 have h3:=Nat.Coprime.dvd_of_dvd_mul_left hc h2
 have h4:((i:Int) - (k:Int)).natAbs<N:=by omega
 have h5:=Nat.eq_zero_of_dvd_of_lt h3 h4
 omega
end
section
theorem unit_iff {n:Nat} (h1:1≤n) {c:Int}:(∀v v':Nat,v<n→v'<n→(n:Int) ∣ c*((v:Int) - (v':Int))→v=v')↔Int.gcd c (n:Int)=1:=by
 constructor
 ·intro h
  obtain ⟨d,hd⟩:∃d,d=Int.gcd c (n:Int):=⟨_,rfl⟩
  rw[← hd]
  have d1:(d:Int) ∣ c:=by rw[hd];exact Int.gcd_dvd_left ..
  have d2:d ∣ n:=by
   have:(d:Int) ∣ (n:Int):=by rw[hd];exact Int.gcd_dvd_right ..
   exact Int.natCast_dvd_natCast.1 this
  obtain ⟨e,he⟩:=d1
  obtain ⟨m,hm⟩:=d2
  by_cases hd1:d=1
  ·exact hd1
  ·exfalso
   have hd0:d≠0:=by intro e0;subst e0;omega
   have hm0:m≠0:=by intro e0;subst e0;omega
   have hlt:m<n:=by
    rw[hm]
    have:=Nat.mul_le_mul_right m (show 2≤d by omega)
    omega
   have:=h m 0 hlt (by omega) ⟨e,by
    rw[he,hm,Int.natCast_mul,Int.natCast_zero,Int.sub_zero,Int.mul_right_comm]⟩
   omega
 ·intro hg v v' hv hv' h
  exact mul_cancel hg hv hv' h
def lnF (n s x y u v:Nat):Nat:=(s+u*x+v*y) % n
theorem lnF_lt {n s x y u v:Nat} (h:1≤n):lnF n s x y u v<n:=Nat.mod_lt _ h
theorem lnF_diff (n s x y u v u' v':Nat):(n:Int) ∣ ((lnF n s x y u v:Nat):Int) - ((lnF n s x y u' v':Nat):Int) - ((x:Int)*((u:Int) - (u':Int))+(y:Int)*((v:Int) - (v':Int))):=by
 have e1:((lnF n s x y u v:Nat):Int)=((s:Int)+(u:Int)*(x:Int)+(v:Int)*(y:Int)) % (n:Int):=by
  unfold lnF;rw[Int.natCast_emod,Int.natCast_add,Int.natCast_add,Int.natCast_mul,Int.natCast_mul]
 have e2:((lnF n s x y u' v':Nat):Int)=((s:Int)+(u':Int)*(x:Int)+(v':Int)*(y:Int)) % (n:Int):=by
  unfold lnF;rw[Int.natCast_emod,Int.natCast_add,Int.natCast_add,Int.natCast_mul,Int.natCast_mul]
 have f1:=Int.emod_add_mul_ediv ((s:Int)+(u:Int)*(x:Int)+(v:Int)*(y:Int)) (n:Int)
 have f2:=Int.emod_add_mul_ediv ((s:Int)+(u':Int)*(x:Int)+(v':Int)*(y:Int)) (n:Int)
 rw[← e1] at f1
 rw[← e2] at f2
 generalize ((s:Int)+(u:Int)*(x:Int)+(v:Int)*(y:Int)) / (n:Int)=q1 at f1
 generalize ((s:Int)+(u':Int)*(x:Int)+(v':Int)*(y:Int)) / (n:Int)=q2 at f2
 refine ⟨q2 - q1,?_⟩
 rw[Int.mul_sub,Int.mul_sub,Int.mul_sub,Int.mul_comm (x:Int),Int.mul_comm (x:Int),Int.mul_comm (y:Int),Int.mul_comm (y:Int)]
 omega
structure Inj (n x0 x1 y0 y1:Nat):Prop where
 n1:1≤n
 n16:n≤16
 inj:∀u v u' v':Nat,u<n→v<n→u'<n→v'<n→(n:Int) ∣ (x0:Int)*((u:Int) - (u':Int))+(y0:Int)*((v:Int) - (v':Int))→(n:Int) ∣ (x1:Int)*((u:Int) - (u':Int))+(y1:Int)*((v:Int) - (v':Int))→u=u'∧v=v'
theorem Inj.swap {n x0 x1 y0 y1:Nat} (H:Inj n x0 x1 y0 y1):Inj n y0 y1 x0 x1:=⟨H.n1,H.n16,fun u v u' v' hu hv hu' hv' h1 h2 =>
 (H.inj v u v' u' hv hu hv' hu' (by rw[Int.add_comm];exact h1) (by rw[Int.add_comm];exact h2)).symm⟩
theorem lnF_eq {n s x y u v u' v':Nat} (h:lnF n s x y u v=lnF n s x y u' v'):(n:Int) ∣ (x:Int)*((u:Int) - (u':Int))+(y:Int)*((v:Int) - (v':Int)):=by
 have h1:=lnF_diff n s x y u v u' v'
 rw[h,Int.sub_self,Int.zero_sub] at h1
 exact Int.dvd_neg.1 h1
theorem lnF_dvd {n s x y u v u' v':Nat} (h1:1≤n) (h:(n:Int) ∣ (x:Int)*((u:Int) - (u':Int))+(y:Int)*((v:Int) - (v':Int))):lnF n s x y u v=lnF n s x y u' v':=by
 have h2:=Int.dvd_add (lnF_diff n s x y u v u' v') h
 rw[Int.sub_add_cancel] at h2
 have a1:=lnF_lt (n:=n) (s:=s) (x:=x) (y:=y) (u:=u) (v:=v) h1
 have a2:=lnF_lt (n:=n) (s:=s) (x:=x) (y:=y) (u:=u') (v:=v') h1
 obtain ⟨k,hk⟩:=h2
 rcases Int.lt_trichotomy k 0 with h3|h3|h3
 ·have:=Int.mul_le_mul_of_nonneg_left (show k ≤ -1 by omega) (show (0:Int)≤(n:Int) by omega)
  omega
 ·subst h3;omega
 ·have:=Int.mul_le_mul_of_nonneg_left (show 1≤k by omega) (show (0:Int)≤(n:Int) by omega)
  omega
theorem Inj.onto {n x0 x1 y0 y1:Nat} (H:Inj n x0 x1 y0 y1) (a b:Nat) {i j:Nat} (hi:i<n) (hj:j<n):∃u v,u<n∧v<n∧lnF n a x0 y0 u v=i∧lnF n b x1 y1 u v=j:=by
 have h1:=H.n1
 obtain ⟨k,hk,e⟩:=inj_onto (n:=n*n) (f:=fun k=>lnF n a x0 y0 (k % n) (k / n)*n+lnF n b x1 y1 (k % n) (k / n))
  (fun k _=>gcell_lt (lnF_lt h1) (lnF_lt h1))
  (fun k l hk hl e=>by
   have e1:=gcell_div (n:=n) (i:=lnF n a x0 y0 (k % n) (k / n)) (j:=lnF n b x1 y1 (k % n) (k / n)) (lnF_lt h1)
   have e2:=gcell_div (n:=n) (i:=lnF n a x0 y0 (l % n) (l / n)) (j:=lnF n b x1 y1 (l % n) (l / n)) (lnF_lt h1)
   have e3:lnF n a x0 y0 (k % n) (k / n)*n+lnF n b x1 y1 (k % n) (k / n)=lnF n a x0 y0 (l % n) (l / n)*n+lnF n b x1 y1 (l % n) (l / n):=e
   rw[e3] at e1
   obtain ⟨g1,g2⟩:=H.inj _ _ _ _ (Nat.mod_lt k h1) (Nat.div_lt_of_lt_mul hk) (Nat.mod_lt l h1) (Nat.div_lt_of_lt_mul hl) (lnF_eq (e1.1.symm.trans e2.1)) (lnF_eq (e1.2.symm.trans e2.2))
   have d1:=Nat.mod_add_div k n
   have d2:=Nat.mod_add_div l n
   rw[g1,g2] at d1
   omega) (gcell_lt hi hj)
 have e1:=gcell_div (n:=n) (i:=lnF n a x0 y0 (k % n) (k / n)) (j:=lnF n b x1 y1 (k % n) (k / n)) (lnF_lt h1)
 have e2:=gcell_div (n:=n) (i:=i) (j:=j) hj
 have e3:lnF n a x0 y0 (k % n) (k / n)*n+lnF n b x1 y1 (k % n) (k / n)=i*n+j:=e
 rw[e3] at e1
 exact ⟨k % n,k / n,Nat.mod_lt k h1,Nat.div_lt_of_lt_mul hk,e1.1.symm.trans e2.1,e1.2.symm.trans e2.2⟩
def DigS (n a b x0 x1 y0 y1:Nat) (s:Nat→Nat→Int):Prop:=∀u v,u<n→v<n→s (lnF n a x0 y0 u v) (lnF n b x1 y1 u v)=(u:Int)
theorem comb_iff {n p q A B C D:Int} (h1:n ∣ A - C) (h2:n ∣ B - D):n ∣ p*A+q*B↔n ∣ p*C+q*D:=by
 have e1:n ∣ p*(A - C):=Int.dvd_mul_of_dvd_right h1
 have e2:n ∣ q*(B - D):=Int.dvd_mul_of_dvd_right h2
 rw[Int.mul_sub] at e1 e2
 have e3:=Int.dvd_add e1 e2
 constructor
 ·intro h
  have:=Int.dvd_sub h e3
  rwa [show p*A+q*B - (p*A - p*C+(q*B - q*D))=p*C+q*D by omega] at this
 ·intro h
  have:=Int.dvd_add h e3
  rwa [show p*C+q*D+(p*A - p*C+(q*B - q*D))=p*A+q*B by omega] at this
theorem dig_line {n a b x0 x1 y0 y1:Nat} {s:Nat→Nat→Int} (H:Inj n x0 x1 y0 y1) (D:DigS n a b x0 x1 y0 y1 s) (p q:Int) :
  (∀i j i' j',i<n→j<n→i'<n→j'<n→(n:Int) ∣ p*((i:Int) - (i':Int))+q*((j:Int) - (j':Int))→s i j=s i' j'→i=i'∧j=j')↔Int.gcd (p*(y0:Int)+q*(y1:Int)) (n:Int)=1:=by
 have h1:=H.n1
 have lin:∀u v v':Nat,(n:Int) ∣ p*(((lnF n a x0 y0 u v:Nat):Int) - ((lnF n a x0 y0 u v':Nat):Int))+q*(((lnF n b x1 y1 u v:Nat):Int) - ((lnF n b x1 y1 u v':Nat):Int))↔(n:Int) ∣ (p*(y0:Int)+q*(y1:Int))*((v:Int) - (v':Int)):=fun u v v'=>by
  have e1:=lnF_diff n a x0 y0 u v u v'
  have e2:=lnF_diff n b x1 y1 u v u v'
  rw[Int.sub_self,Int.mul_zero,Int.zero_add] at e1 e2
  rw[comb_iff e1 e2,Int.add_mul,Int.mul_assoc,Int.mul_assoc]
 rw[← unit_iff h1]
 constructor
 ·intro h v v' hv hv' hd
  have g:=h _ _ _ _ (lnF_lt h1) (lnF_lt h1) (lnF_lt h1) (lnF_lt h1) ((lin 0 v v').2 hd) (by rw[D 0 v h1 hv,D 0 v' h1 hv'])
  exact (H.inj 0 v 0 v' h1 hv h1 hv' (lnF_eq g.1) (lnF_eq g.2)).2
 ·intro h i j i' j' hi hj hi' hj' hd hs
  obtain ⟨u,v,hu,hv,rfl,rfl⟩:=H.onto a b hi hj
  obtain ⟨u',v',hu',hv',rfl,rfl⟩:=H.onto a b hi' hj'
  rw[D u v hu hv,D u' v' hu' hv'] at hs
  obtain rfl:u=u':=by omega
  obtain rfl:=h v v' hv hv' ((lin u v v').1 hd)
  exact ⟨rfl,rfl⟩
theorem dvd_small {n:Nat} {i i':Nat} (hi:i<n) (hi':i'<n) (h:(n:Int) ∣ (i:Int) - (i':Int)):i=i':=by
 have:=mul_cancel (N:=n) (a:=1) Int.one_gcd hi hi' (by rw[Int.one_mul];exact h)
 exact this
theorem dig_latin {n a b x0 x1 y0 y1:Nat} {s:Nat→Nat→Int} (H:Inj n x0 x1 y0 y1) (D:DigS n a b x0 x1 y0 y1 s) :
  Latin n (madeTo n s (n*n))↔Int.gcd (y0:Int) (n:Int)=1∧Int.gcd (y1:Int) (n:Int)=1:=by
 have h1:=H.n1
 have R:=dig_line H D 1 0
 have C:=dig_line H D 0 1
 rw[Int.one_mul,Int.zero_mul,Int.add_zero] at R
 rw[Int.one_mul,Int.zero_mul,Int.zero_add] at C
 rw[← R,← C]
 have hr:∀i j,i<n→j<n→0≤s i j∧s i j<(n:Int):=fun i j hi hj=>by
  obtain ⟨u,v,hu,hv,rfl,rfl⟩:=H.onto a b hi hj
  rw[D u v hu hv];omega
 have hat:∀i j,i<n→j<n→nat (madeTo n s (n*n)) (i*n+j)=(s i j).toNat:=fun i j hi hj=>made_nat hi hj
 constructor
 ·intro L
  refine ⟨fun i j i' j' hi hj hi' hj' hd hs=>?_,fun i j i' j' hi hj hi' hj' hd hs=>?_⟩
  ·rw[Int.one_mul,Int.zero_mul,Int.add_zero] at hd
   obtain rfl:=dvd_small hi hi' hd
   exact ⟨rfl,L.rinj hi hj hj' (by rw[hat _ _ hi hj,hat _ _ hi hj',hs])⟩
  ·rw[Int.one_mul,Int.zero_mul,Int.zero_add] at hd
   obtain rfl:=dvd_small hj hj' hd
   exact ⟨L.cinj hi hj hi' (by rw[hat _ _ hi hj,hat _ _ hi' hj,hs]),rfl⟩
 ·rintro ⟨g1,g2⟩
  exact made_latin h1 H.n16 hr (fun i j k hi hj hk e=>(g1 i j i k hi hj hi hk (by simp) e).2) (fun i k j hi hk hj e=>(g2 i j k j hi hj hk hj (by simp) e).1)
end
section
theorem onceB_iff {n:Nat} {cs:List Int} {col:Nat→Int}:onceB n cs col=true↔∀i i',i'<i→i<n→onceX n cs col i'≠onceX n cs col i:=by
 unfold onceB
 rw[List.all_eq_true]
 constructor
 ·intro h i i' h1 h2 e
  have g:=h i (List.mem_range.2 h2)
  rw[Bool.not_eq_true',List.contains_eq_mem,decide_eq_false_iff_not] at g
  exact g (List.mem_map.2 ⟨i',List.mem_range.2 h1,e⟩)
 ·intro h i hi
  rw[Bool.not_eq_true',List.contains_eq_mem,decide_eq_false_iff_not]
  intro hm
  obtain ⟨i',h1,e⟩:=List.mem_map.1 hm
  exact h i i' (List.mem_range.1 h1) (List.mem_range.1 hi) e
theorem made_at {N:Nat} {s:Nat→Nat→Int} {i j:Nat} (hi:i<N) (hj:j<N):(madeTo N s (N*N))[i*N+j]?.getD 0=s i j:=by
 have hp:=gcell_lt hi hj
 unfold madeTo
 rw[List.getElem?_map,List.getElem?_range hp,Option.map_some,Option.getD_some,(gcell_div hj).1,(gcell_div hj).2]
theorem once_line {n:Nat} {s:Nat→Nat→Int} (h1:1≤n) (σ:Int):(∀k:Nat,k<n→onceB n (madeTo n s (n*n)) (fun i=>(k:Int)+σ*(i:Int))=true) ↔
  ∀i j i' j',i<n→j<n→i'<n→j'<n→(n:Int) ∣ (-σ)*((i:Int) - (i':Int))+1*((j:Int) - (j':Int))→s i j=s i' j'→i=i'∧j=j':=by
 have hn:(0:Int)<(n:Int):=by omega
 have hx:∀(k i:Nat),i<n→onceX n (madeTo n s (n*n)) (fun i=>(k:Int)+σ*(i:Int)) i=s i (((k:Int)+σ*(i:Int)) % (n:Int)).toNat:=fun k i hi=>by
  unfold onceX
  have:=Int.emod_lt_of_pos ((k:Int)+σ*(i:Int)) hn
  have:=Int.emod_nonneg ((k:Int)+σ*(i:Int)) (show (n:Int)≠0 by omega)
  show (madeTo n s (n*n))[i*n+(((k:Int)+σ*(i:Int)) % (n:Int)).toNat]?.getD 0=_
  exact made_at hi (by omega)
 constructor
 ·intro h i j i' j' hi hj hi' hj' hd hs
  -- the line of both cells
  have k1:=Int.emod_nonneg ((j:Int) - σ*(i:Int)) (show (n:Int)≠0 by omega)
  have k2:=Int.emod_lt_of_pos ((j:Int) - σ*(i:Int)) hn
  obtain ⟨k,hk⟩:∃k:Nat,(k:Int)=((j:Int) - σ*(i:Int)) % (n:Int):=⟨(((j:Int) - σ*(i:Int)) % (n:Int)).toNat,by omega⟩
  have hkn:k<n:=by omega
  have c1:(((k:Int)+σ*(i:Int)) % (n:Int)).toNat=j:=by
   rw[hk,Int.emod_add_emod,Int.sub_add_cancel,Int.emod_eq_of_lt (by omega) (by omega)];omega
  have c2:(((k:Int)+σ*(i':Int)) % (n:Int)).toNat=j':=by
   rw[hk,Int.emod_add_emod]
   have e:((j:Int) - σ*(i:Int)+σ*(i':Int)) % (n:Int)=(j':Int) % (n:Int):=by
    refine Int.emod_eq_emod_iff_emod_sub_eq_zero.2 (Int.emod_eq_zero_of_dvd ?_)
    rw[Int.one_mul,Int.neg_mul,Int.mul_sub] at hd
    rwa [show (j:Int) - σ*(i:Int)+σ*(i':Int) - (j':Int) = -(σ*(i:Int) - σ*(i':Int))+((j:Int) - (j':Int)) by omega]
   rw[e,Int.emod_eq_of_lt (by omega) (by omega)];omega
  have g:=onceB_iff.1 (h k hkn)
  have hii:i=i':=by
   rcases Nat.lt_trichotomy i i' with l|l|l
   ·exact absurd (by rw[hx k i hi,hx k i' hi',c1,c2,hs]) (g i' i l hi')
   ·exact l
   ·exact absurd (by rw[hx k i hi,hx k i' hi',c1,c2,hs]) (g i i' l hi)
  subst hii
  exact ⟨rfl,c1.symm.trans c2⟩
 ·intro h k hk
  refine onceB_iff.2 fun i i' l hi e=>?_
  rw[hx k i hi,hx k i' (by omega)] at e
  have a1:=Int.emod_nonneg ((k:Int)+σ*(i:Int)) (show (n:Int)≠0 by omega)
  have a2:=Int.emod_lt_of_pos ((k:Int)+σ*(i:Int)) hn
  have b1:=Int.emod_nonneg ((k:Int)+σ*(i':Int)) (show (n:Int)≠0 by omega)
  have b2:=Int.emod_lt_of_pos ((k:Int)+σ*(i':Int)) hn
  have:=h i' _ i _ (by omega) (by omega) hi (by omega) (by
   have f1:=Int.emod_add_mul_ediv ((k:Int)+σ*(i:Int)) (n:Int)
   have f2:=Int.emod_add_mul_ediv ((k:Int)+σ*(i':Int)) (n:Int)
   rw[Int.toNat_of_nonneg a1,Int.toNat_of_nonneg b1,Int.one_mul,Int.neg_mul,Int.mul_sub]
   refine ⟨((k:Int)+σ*(i:Int)) / (n:Int) - ((k:Int)+σ*(i':Int)) / (n:Int),?_⟩
   rw[Int.mul_sub]
   omega) e
  omega
theorem dig_pan {n a b x0 x1 y0 y1:Nat} {s:Nat→Nat→Int} (H:Inj n x0 x1 y0 y1) (D:DigS n a b x0 x1 y0 y1 s) :
  kPan n (madeTo n s (n*n))=true↔Int.gcd ((y0:Int) - (y1:Int)) (n:Int)=1∧Int.gcd ((y0:Int)+(y1:Int)) (n:Int)=1:=by
 have h1:=H.n1
 have A:=dig_line H D (-1) 1
 have B:=dig_line H D (-(-1)) 1
 rw[← once_line h1 1] at A
 rw[← once_line h1 (-1)] at B
 rw[show (-1:Int)*(y0:Int)+1*(y1:Int) = -((y0:Int) - (y1:Int)) by omega,Int.neg_gcd] at A
 rw[show -(-1:Int)*(y0:Int)+1*(y1:Int)=(y0:Int)+(y1:Int) by omega] at B
 rw[← A,← B]
 unfold kPan
 rw[List.all_eq_true]
 constructor
 ·intro h
  refine ⟨fun k hk=>?_,fun k hk=>?_⟩
  ·have:=(Bool.and_eq_true _ _▸h k (List.mem_range.2 hk)).1
   rwa [show (fun i:Nat=>(k:Int)+1*(i:Int))=fun i:Nat=>(i:Int)+(k:Int) from funext fun i=>by omega]
  ·have:=(Bool.and_eq_true _ _▸h k (List.mem_range.2 hk)).2
   rwa [show (fun i:Nat=>(k:Int) + -1*(i:Int))=fun i:Nat=>(k:Int) - (i:Int) from funext fun i=>by omega]
 ·rintro ⟨g1,g2⟩ k hk
  have hk:=List.mem_range.1 hk
  have f1:=g1 k hk
  have f2:=g2 k hk
  rw[show (fun i:Nat=>(k:Int)+1*(i:Int))=fun i:Nat=>(i:Int)+(k:Int) from funext fun i=>by omega] at f1
  rw[show (fun i:Nat=>(k:Int) + -1*(i:Int))=fun i:Nat=>(k:Int) - (i:Int) from funext fun i=>by omega] at f2
  rw[f1,f2];rfl
theorem dig_ortho {n a b x0 x1 y0 y1:Nat} {s t:Nat→Nat→Int} (H:Inj n x0 x1 y0 y1) (D:DigS n a b x0 x1 y0 y1 s) (T:∀u v,u<n→v<n→t (lnF n a x0 y0 u v) (lnF n b x1 y1 u v)=(v:Int))
  (L:Latin n (madeTo n s (n*n))) (M:Latin n (madeTo n t (n*n))):Ortho (madeTo n s (n*n)) (madeTo n t (n*n)):=by
 rw[ortho_iff L M]
 intro i j i' j' hi hj hi' hj' e1 e2
 rw[made_nat hi hj,made_nat hi' hj'] at e1 e2
 obtain ⟨u,v,hu,hv,rfl,rfl⟩:=H.onto a b hi hj
 obtain ⟨u',v',hu',hv',rfl,rfl⟩:=H.onto a b hi' hj'
 rw[D u v hu hv,D u' v' hu' hv'] at e1
 rw[T u v hu hv,T u' v' hu' hv'] at e2
 obtain rfl:u=u':=by omega
 obtain rfl:v=v':=by omega
 exact ⟨rfl,rfl⟩
theorem det_unit {n x0 x1 y0 y1:Nat} (H:Inj n x0 x1 y0 y1) (hy:Int.gcd (y1:Int) (n:Int)=1):Int.gcd ((x0:Int)*(y1:Int) - (x1:Int)*(y0:Int)) (n:Int)=1:=by
 have h1:=H.n1
 have hn:(0:Int)<(n:Int):=by omega
 refine (unit_iff h1).1 fun v v' hv hv' hd=>?_
 refine mul_cancel hy hv hv' ?_
 generalize (v:Int) - (v':Int)=t at hd ⊢
 have u1:=Int.emod_nonneg ((y1:Int)*t) (show (n:Int)≠0 by omega)
 have u2:=Int.emod_lt_of_pos ((y1:Int)*t) hn
 have w1:=Int.emod_nonneg (-((x1:Int)*t)) (show (n:Int)≠0 by omega)
 have w2:=Int.emod_lt_of_pos (-((x1:Int)*t)) hn
 obtain ⟨u,hu⟩:∃u:Nat,(u:Int)=(y1:Int)*t % (n:Int):=⟨_,Int.toNat_of_nonneg u1⟩
 obtain ⟨w,hw⟩:∃w:Nat,(w:Int) = -((x1:Int)*t) % (n:Int):=⟨_,Int.toNat_of_nonneg w1⟩
 have e1:(n:Int) ∣ ((u:Int) - ((0:Nat):Int)) - (y1:Int)*t:=by
  rw[hu,Int.natCast_zero,Int.sub_zero];exact Int.dvd_of_emod_eq_zero (by rw[Int.emod_sub_emod,Int.sub_self,Int.zero_emod])
 have e2:(n:Int) ∣ ((w:Int) - ((0:Nat):Int)) - -((x1:Int)*t):=by
  rw[hw,Int.natCast_zero,Int.sub_zero];exact Int.dvd_of_emod_eq_zero (by rw[Int.emod_sub_emod,Int.sub_self,Int.zero_emod])
 have g:=H.inj u w 0 0 (by omega) (by omega) h1 h1 ((comb_iff e1 e2).2 (by
   rw[Int.mul_neg,← Int.sub_eq_add_neg,← Int.mul_assoc,← Int.mul_assoc,← Int.sub_mul,Int.mul_comm (y0:Int) (x1:Int)]
   exact hd)) ((comb_iff e1 e2).2 (by
   rw[Int.mul_neg,← Int.sub_eq_add_neg,← Int.mul_assoc,← Int.mul_assoc,← Int.sub_mul,Int.mul_comm (y1:Int) (x1:Int),Int.sub_self,Int.zero_mul]
   exact Int.dvd_zero _))
 refine Int.dvd_of_emod_eq_zero ?_
 rw[← hu,g.1];rfl
end
section
def layC (m:Nat) (c:Nat→Nat):Nat→List Int
 | 0=>List.replicate m 0
 | k+1=>(layC m c k).set (c k) ((k:Int)+1)
theorem layC_len (m:Nat) (c:Nat→Nat) (k:Nat):(layC m c k).length=m:=by
 induction k with
 | zero=>simp[layC]
 | succ k ih=>unfold layC;rw[List.length_set,ih]
theorem layC_at {m:Nat} {c:Nat→Nat} {k p:Nat} (hp:p<m):(layC m c (k+1))[p]?.getD 0=if c k=p then (k:Int)+1 else (layC m c k)[p]?.getD 0:=by
 rw[show layC m c (k+1)=(layC m c k).set (c k) ((k:Int)+1) from rfl]
 by_cases h:c k=p
 ·subst h
  rw[if_pos rfl,List.getElem?_set_self (by rw[layC_len];exact hp),Option.getD_some]
 ·rw[if_neg h,List.getElem?_set_ne h]
theorem layC_zero {m:Nat} {c:Nat→Nat} {p:Nat} (hp:p<m):∀k,(∀i,i<k→c i≠p)→(layC m c k)[p]?.getD 0=0:=by
 intro k
 induction k with
 | zero=>intro _;simp[layC,hp]
 | succ k ih=>intro h;rw[layC_at hp,if_neg (h k (by omega)),ih (fun i hi=>h i (by omega))]
theorem layC_pos {m:Nat} {c:Nat→Nat} {p:Nat} (hp:p<m):∀k i,i<k→c i=p→0<(layC m c k)[p]?.getD 0:=by
 intro k
 induction k with
 | zero=>intro i hi;omega
 | succ k ih =>
  intro i hi e
  rw[layC_at hp]
  split
  ·omega
  ·rename_i h
   exact ih i (by
    by_cases h2:i=k
    ·subst h2;exact absurd e h
    ·omega) e
theorem noMeet_iff {m:Nat} {c:Nat→Nat} (hc:∀k,k<m→c k<m):(∀k,k<m→(layC m c k)[c k]?.getD 0=0)↔∀i j,i<m→j<m→c i=c j→i=j:=by
 constructor
 ·intro h i j hi hj e
  rcases Nat.lt_trichotomy i j with l|l|l
  ·have:=layC_pos (hc j hj) j i l e
   rw[h j hj] at this
   omega
  ·exact l
  ·have:=layC_pos (hc i hi) i j l e.symm
   rw[h i hi] at this
   omega
 ·intro h k hk
  exact layC_zero (hc k hk) k fun i hi e=>by have:=h i k (by omega) hk e;omega
theorem layC_hit {m:Nat} {c:Nat→Nat} (hc:∀k,k<m→c k<m) (h:∀i j,i<m→j<m→c i=c j→i=j):∀k,k≤m→∀i,i<k→(layC m c k)[c i]?.getD 0=(i:Int)+1:=by
 intro k
 induction k with
 | zero=>intro _ i hi;omega
 | succ k ih =>
  intro hk i hi
  rw[layC_at (hc i (by omega))]
  split
  ·rename_i e
   rw[h k i (by omega) (by omega) e]
  ·rename_i e
   exact ih (by omega) i (by
    by_cases h2:i=k
    ·subst h2;exact absurd rfl e
    ·omega)
def celF (n s0 s1 x0 x1 y0 y1 k:Nat):Nat:=lnF n s0 x0 y0 (k % n) (k / n)*n+lnF n s1 x1 y1 (k % n) (k / n)
theorem celF_lt {n s0 s1 x0 x1 y0 y1:Nat} (h1:1≤n) (k:Nat):celF n s0 s1 x0 x1 y0 y1 k<n*n:=gcell_lt (lnF_lt h1) (lnF_lt h1)
theorem celF_inj {n s0 s1 x0 x1 y0 y1:Nat} (h1:1≤n) (h16:n≤16) (h:∀i j,i<n*n→j<n*n→celF n s0 s1 x0 x1 y0 y1 i=celF n s0 s1 x0 x1 y0 y1 j→i=j):Inj n x0 x1 y0 y1 :=
 ⟨h1,h16,fun u v u' v' hu hv hu' hv' e1 e2=>by
  have d1:=gcell_div (n:=n) (i:=v) (j:=u) hu
  have d2:=gcell_div (n:=n) (i:=v') (j:=u') hu'
  have:=h (v*n+u) (v'*n+u') (gcell_lt hv hu) (gcell_lt hv' hu') (by
   unfold celF
   rw[d1.1,d1.2,d2.1,d2.2,lnF_dvd h1 e1,lnF_dvd h1 e2])
  rw[this] at d1
  exact ⟨d1.2.symm.trans d2.2,d1.1.symm.trans d2.1⟩⟩
def ruSq (n s0 s1 x0 x1 y0 y1:Nat):List Int:=layC (n*n) (celF n s0 s1 x0 x1 y0 y1) (n*n)
def RuNo (n s0 s1 x0 x1 y0 y1:Nat):Prop:=∀i j,i<n*n→j<n*n→celF n s0 s1 x0 x1 y0 y1 i=celF n s0 s1 x0 x1 y0 y1 j→i=j
theorem ruSq_at {n s0 s1 x0 x1 y0 y1:Nat} (h1:1≤n) (h:RuNo n s0 s1 x0 x1 y0 y1) {u v:Nat} (hu:u<n) (hv:v<n) :
  (ruSq n s0 s1 x0 x1 y0 y1)[lnF n s0 x0 y0 u v*n+lnF n s1 x1 y1 u v]?.getD 0=((v*n+u:Nat):Int)+1:=by
 have d1:=gcell_div (n:=n) (i:=v) (j:=u) hu
 have:=layC_hit (fun k _=>celF_lt (s0:=s0) (s1:=s1) (x0:=x0) (x1:=x1) (y0:=y0) (y1:=y1) h1 k) h (n*n) (Nat.le_refl _) (v*n+u) (gcell_lt hv hu)
 unfold celF at this
 rw[d1.1,d1.2] at this
 exact this
def ruA (n s0 s1 x0 x1 y0 y1 i j:Nat):Int:=((ruSq n s0 s1 x0 x1 y0 y1)[i*n+j]?.getD 0 - 1) % (n:Int)
def ruB (n s0 s1 x0 x1 y0 y1 i j:Nat):Int:=((ruSq n s0 s1 x0 x1 y0 y1)[i*n+j]?.getD 0 - 1) / (n:Int)
theorem lnF_swap (n s x y u v:Nat):lnF n s x y u v=lnF n s y x v u:=by unfold lnF;rw[Nat.add_right_comm]
theorem ruA_dig {n s0 s1 x0 x1 y0 y1:Nat} (h1:1≤n) (h:RuNo n s0 s1 x0 x1 y0 y1):DigS n s0 s1 x0 x1 y0 y1 (ruA n s0 s1 x0 x1 y0 y1):=fun u v hu hv=>by
 unfold ruA
 rw[ruSq_at h1 h hu hv,Int.add_sub_cancel,← Int.natCast_emod,(gcell_div hu).2]
theorem ruB_dig {n s0 s1 x0 x1 y0 y1:Nat} (h1:1≤n) (h:RuNo n s0 s1 x0 x1 y0 y1) (u v:Nat) (hu:u<n) (hv:v<n):ruB n s0 s1 x0 x1 y0 y1 (lnF n s0 x0 y0 u v) (lnF n s1 x1 y1 u v)=(v:Int):=by
 unfold ruB
 rw[ruSq_at h1 h hu hv,Int.add_sub_cancel,← Int.natCast_ediv,(gcell_div hu).1]
theorem ruB_dig' {n s0 s1 x0 x1 y0 y1:Nat} (h1:1≤n) (h:RuNo n s0 s1 x0 x1 y0 y1):DigS n s0 s1 y0 y1 x0 x1 (ruB n s0 s1 x0 x1 y0 y1):=fun u v hu hv=>by
 rw[lnF_swap n s0,lnF_swap n s1,ruB_dig h1 h v u hv hu]
def SemC (n x0 x1 y0 y1:Nat):Prop:=Int.gcd ((x0:Int)*(y1:Int) - (x1:Int)*(y0:Int)) (n:Int)=1∧Int.gcd (x0:Int) (n:Int)=1∧Int.gcd (x1:Int) (n:Int)=1∧Int.gcd (y0:Int) (n:Int)=1∧Int.gcd (y1:Int) (n:Int)=1
def PanC (n x0 x1 y0 y1:Nat):Prop:=SemC n x0 x1 y0 y1∧Int.gcd ((x0:Int) - (x1:Int)) (n:Int)=1∧Int.gcd ((x0:Int)+(x1:Int)) (n:Int)=1∧Int.gcd ((y0:Int) - (y1:Int)) (n:Int)=1∧Int.gcd ((y0:Int)+(y1:Int)) (n:Int)=1
theorem ru_latin {n s0 s1 x0 x1 y0 y1:Nat} (h1:1≤n) (h16:n≤16) (h:RuNo n s0 s1 x0 x1 y0 y1) :
  (Latin n (madeTo n (ruA n s0 s1 x0 x1 y0 y1) (n*n))∧Latin n (madeTo n (ruB n s0 s1 x0 x1 y0 y1) (n*n)))↔SemC n x0 x1 y0 y1:=by
 have H:=celF_inj h1 h16 h
 rw[dig_latin H (ruA_dig h1 h),dig_latin H.swap (ruB_dig' h1 h)]
 unfold SemC
 constructor
 ·rintro ⟨⟨a,b⟩,c,d⟩
  exact ⟨det_unit H b,c,d,a,b⟩
 ·rintro ⟨_,c,d,a,b⟩
  exact ⟨⟨a,b⟩,c,d⟩
theorem ru_ortho {n s0 s1 x0 x1 y0 y1:Nat} (h1:1≤n) (h16:n≤16) (h:RuNo n s0 s1 x0 x1 y0 y1) (L:Latin n (madeTo n (ruA n s0 s1 x0 x1 y0 y1) (n*n))) (M:Latin n (madeTo n (ruB n s0 s1 x0 x1 y0 y1) (n*n))) :
  Ortho (madeTo n (ruA n s0 s1 x0 x1 y0 y1) (n*n)) (madeTo n (ruB n s0 s1 x0 x1 y0 y1) (n*n)) :=
 dig_ortho (celF_inj h1 h16 h) (ruA_dig h1 h) (ruB_dig h1 h) L M
theorem ru_pan {n s0 s1 x0 x1 y0 y1:Nat} (h1:1≤n) (h16:n≤16) (h:RuNo n s0 s1 x0 x1 y0 y1) (hs:SemC n x0 x1 y0 y1) :
  (kPan n (madeTo n (ruA n s0 s1 x0 x1 y0 y1) (n*n))=true∧kPan n (madeTo n (ruB n s0 s1 x0 x1 y0 y1) (n*n))=true)↔PanC n x0 x1 y0 y1:=by
 have H:=celF_inj h1 h16 h
 rw[dig_pan H (ruA_dig h1 h),dig_pan H.swap (ruB_dig' h1 h)]
 unfold PanC
 constructor
 ·rintro ⟨⟨a,b⟩,c,d⟩
  exact ⟨hs,c,d,a,b⟩
 ·rintro ⟨_,c,d,a,b⟩
  exact ⟨⟨a,b⟩,c,d⟩
theorem gcd_umod (a:Int) (n:Nat) (h1:1≤n):Int.gcd a (n:Int)=Nat.gcd (a % (n:Int)).toNat n:=by
 have h0:=Int.emod_nonneg a (show (n:Int)≠0 by omega)
 have e:Int.gcd (a % (n:Int)) (n:Int)=Int.gcd a (n:Int):=gcd_emod a (n:Int)
 rw[← e]
 obtain ⟨r,hr⟩:∃r:Nat,a % (n:Int)=(r:Int):=⟨_,(Int.toNat_of_nonneg h0).symm⟩
 rw[hr,Int.toNat_natCast]
 rfl
end
section
open Go Go.RowKit
attribute [local go_sem] over_cell
attribute [local go_sem] Oper.semAt_some
theorem ugcd_c (a:Int) (n:Nat) (w:World) (h1:1≤n) (h2:n≤16) :
  Calls Try.prog 93 #[.int .i64 a,.int .i64 (n:Int)] w fun e w'=>e = .returned (.int .i64 ((Int.gcd a (n:Int):Nat):Int))∧Below w.heap.size w w':=by
 obtain ⟨G,hG⟩:∃G,G=Int.gcd a (n:Int):=⟨_,rfl⟩
 rw[← hG]
 rw[gcd_umod a n h1] at hG
 have h0:=Int.emod_nonneg a (show (n:Int)≠0 by omega)
 have h3:=Int.emod_lt_of_pos a (show (0:Int)<(n:Int) by omega)
 have HM:=Lib.hid (fun W=>umod_c a n W h1 (by omega))
 obtain ⟨r,hr⟩:∃r:Nat,a % (n:Int)=(r:Int):=⟨_,(Int.toNat_of_nonneg h0).symm⟩
 rw[hr] at HM hG h3
 rw[Int.toNat_natCast] at hG
 have HG:=Lib.hid hG
 clear hG hr
 go_enter Try.func93,Try.ntmps93
 go_wp2_with (first|(go_at_call 40;(with_reducible refine (HM.out _).mono ?_);rintro _ w1 ⟨rfl,rfl⟩)|fail)
 go_loopw [0,1] (fun x y wr=>∃a' b':Nat,x = .int .i64 (a':Int)∧y = .int .i64 (b':Int)∧a'≤16∧b'≤16∧Hid (G=Nat.gcd a' b')∧Below w.heap.size w wr) (fun x _ _=>(intOf x).toNat)
 case atStart=>exact ⟨r,n,rfl,rfl,by omega,h2,HG.out,Below.refl _ _⟩
 case round =>
  obtain ⟨a',b',rfl,rfl,ha',hb',hG',hbr⟩:=hrel
  by_cases h0:a'=0
  ·subst h0
   have hz:Hid ((G:Int)=(b':Int)):=by unfold Hid;rw[hG'.out,Nat.gcd_zero_left]
   go_wp2
   go_ret
   exact ⟨ret_int (by rw[hz.out]),hbr⟩
  ·have h00:(a':Int)≠0:=by omega
   have em:(b':Int) % (a':Int)=((b' % a':Nat):Int):=(Int.natCast_emod _ _).symm
   have hs:=Nat.mod_lt b' (show 0<a' by omega)
   have HT:Hid (Nat.gcd (b' % a') a'=Nat.gcd a' b'):=by unfold Hid;rw[← Nat.gcd_rec]
   generalize b' % a'=m at em hs HT
   go_wp2
   go_roundw
   case rel=>exact ⟨m,a',by rw[em],rfl,by omega,ha',by unfold Hid;rw[hG'.out];exact HT.out.symm,hbr⟩
   case measure=>simp[intOf];omega
end
section
open Go Go.RowKit Go.Maps
def valElem (v:Value):Option (DataW Value × List MemPlace):=some (.held v,[])
section
variable {α:Type} {P:Program} {k:TypeId} {κ:α→Lit} {b n:Nat} {w:World}
def MapV (w:World) (P:Program) (k:TypeId) (κ:α→Lit) (b n:Nat) (g:α→Option Value):Prop :=
 ∃D:DataW Value,w.ownsMap P k valElem b n D∧∀x,has D (κ x)=(g x).isSome∧∀c,g x=some c→∀z,D.atKey (κ x) z = .held c
theorem MapV.made:MapV (w.alloc (.map #[] 0)) P k κ w.heap.size 0 (fun _=>none):=⟨_,World.ownsMap_made _ _ _ _,fun _=>⟨rfl,fun _ h=>by cases h⟩⟩
end
section
variable {α:Type} [DecidableEq α] {P:Program} (w:World) {ops:Array Oper} {rest:List Oper} {o:Oper} {a:Act} {Q:Exit→Act→World→Prop}
theorem wpList_insertV (hg:o.guard=none) (m x v:Operand) (t:TypeId) (hop:o.op=Op.insert t m x v) (k e:TypeId) (K:Keyed P k) (ht:P.underlying t=some (.map k e))
  (κ:α→Lit) (hinj:∀x y,κ x=κ y→x=y) (b n:Nat) (g:α→Option Value) (hm:a.eval m = .map (some b)) (h:MapV w P k κ b n g) (hn:n<maxLen) (key val:Value) (y:α) (hx:a.eval x=key) (hv:a.eval v=val)
  (hkey:keyOf P k key=some (κ y))
  (hK:∀w',MapV w' P k κ b (n+1) (fun z=>if z=y then some val else g z)→w.grownBy w' (some b)→wpList P ops Q rest (a.put o.dst undef) w') :
  wpList P ops Q (o :: rest) a w:=by
 obtain ⟨D,h1,h2⟩:=h
 refine wpList_plain hg fun K' hK'=>?_
 obtain ⟨w',hrun,h3,h4⟩:=h1.update K ht hn hkey (R:=valElem) (val:=val) (d := .held val) (ps:=[]) rfl
 unfold Oper.wp
 simp[execOp,hop,hm,hx,hv,hrun,Result.andThen]
 refine hK' _ _ (hK w' ⟨_,h3,fun z=>?_⟩ h4)
 by_cases e1:z=y
 ·subst e1
  dsimp only
  rw[if_pos rfl]
  exact ⟨has_put_same h1.isMap (K.key hkey) _,fun c2 e2 z2=>by cases e2;exact atKey_put_same h1.isMap (K.key hkey) _ _⟩
 ·dsimp only
  rw[if_neg e1,has_put_other (fun e2=>e1 (hinj _ _ e2))]
  exact ⟨(h2 z).1,fun c2 e2 z2=>by rw[atKey_put_other (fun e3=>e1 (hinj _ _ e3))];exact (h2 z).2 c2 e2 z2⟩
end
section
variable {α:Type} {P:Program} (w:World) {ops:Array Oper} {rest:List Oper} {o:Oper} {a:Act} {Q:Exit→Act→World→Prop}
theorem wpList_lookV (hg:o.guard=none) (m x:Operand) (t:TypeId) (hop:o.op=Op.lookup t m x true) (k e:TypeId) (K:Keyed P k) (ht:P.underlying t=some (.map k e)) (z:Value) (hz:(zeroValue e).run P w = .ok z w)
  (κ:α→Lit) (b n:Nat) (g:α→Option Value) (hm:a.eval m = .map (some b)) (h:MapV w P k κ b n g) (key:Value) (y:α) (hx:a.eval x=key) (hkey:keyOf P k key=some (κ y))
  (hK:wpList P ops Q rest (a.put o.dst (.tuple #[(g y).getD z,.bool (g y).isSome])) w) :
  wpList P ops Q (o :: rest) a w:=by
 obtain ⟨D,h1,h2⟩:=h
 refine wpList_lookup_own_ok w hg m x t hop k e K ht valElem hz (.held z) [] rfl b n D hm h1 key (κ y) hx hkey (fun v ps h3=>?_)
 rw[(h2 y).1]
 unfold valElem at h3
 simp only[Option.some.injEq,Prod.mk.injEq] at h3
 cases hgy:g y with
 | some d =>
  rw[(h2 y).2 d hgy] at h3
  have:v=d:=by have:=h3.1;injection this
  rw[this]
  rw[hgy] at hK
  exact hK
 | none =>
  have h4:has D (κ y)=false:=by rw[(h2 y).1,hgy];rfl
  rw[atKey_of_not_has h4] at h3
  have:v=z:=by have:=h3.1;injection this
  rw[this]
  rw[hgy] at hK
  exact hK
end
end
section
theorem ruSq_len (n s0 s1 x0 x1 y0 y1:Nat):(ruSq n s0 s1 x0 x1 y0 y1).length=n*n:=layC_len _ _ _
theorem ru_get {n s0 s1 x0 x1 y0 y1:Nat} (h1:1≤n) (h:RuNo n s0 s1 x0 x1 y0 y1) {k:Nat} (hk:k<n*n) :
  ∃i,i<n*n∧celF n s0 s1 x0 x1 y0 y1 i=k∧(ruSq n s0 s1 x0 x1 y0 y1)[k]?.getD 0=(i:Int)+1:=by
 obtain ⟨i,hi,e⟩:=inj_onto (n:=n*n) (f:=celF n s0 s1 x0 x1 y0 y1) (fun i _=>celF_lt h1 i) h hk
 refine ⟨i,hi,e,?_⟩
 rw[← e]
 exact layC_hit (fun k _=>celF_lt h1 k) h (n*n) (Nat.le_refl _) i hi
theorem ru_nor {n s0 s1 x0 x1 y0 y1:Nat} (h1:1≤n) (h:RuNo n s0 s1 x0 x1 y0 y1):norB (ruSq n s0 s1 x0 x1 y0 y1)=true:=by
 refine norB_end fun k hk=>?_
 rw[ruSq_len] at hk
 obtain ⟨i,hi,e,hv⟩:=ru_get h1 h hk
 unfold badN
 rw[hv,ruSq_len]
 have hn:hasB ((ruSq n s0 s1 x0 x1 y0 y1).take k) ((i:Int)+1)=false:=by
  cases hh:hasB ((ruSq n s0 s1 x0 x1 y0 y1).take k) ((i:Int)+1) with
  | false=>rfl
  | true =>
   have hm:(i:Int)+1∈(ruSq n s0 s1 x0 x1 y0 y1).take k:=by simpa [hasB] using hh
   obtain ⟨j,hj,e2⟩:=List.getElem_of_mem hm
   rw[List.length_take,ruSq_len] at hj
   obtain ⟨i',hi',e',hv'⟩:=ru_get h1 h (k:=j) (by omega)
   have h3:(ruSq n s0 s1 x0 x1 y0 y1)[j]?.getD 0=(i:Int)+1:=by
    rw[← e2,List.getElem_take,List.getElem?_eq_getElem (by rw[ruSq_len];omega)];rfl
   rw[hv'] at h3
   have:i'=i:=by omega
   subst this
   omega
 rw[hn,decide_eq_false (by omega),decide_eq_false (by omega)];rfl
theorem layTo_eq (r:Rul) (k:Nat):layTo r k=layC (r.n*r.n) r.cell k:=by
 induction k with
 | zero=>rfl
 | succ k ih=>unfold layTo layC;rw[ih]
theorem layTo_ru (r:Rul):layTo r (r.n*r.n)=ruSq r.n r.s0 r.s1 r.x0 r.x1 r.y0 r.y1:=layTo_eq r _
theorem noMeet_ru {r:Rul} (h1:1≤r.n):NoMeetR r↔RuNo r.n r.s0 r.s1 r.x0 r.x1 r.y0 r.y1:=by
 unfold NoMeetR
 simp only[layTo_eq]
 exact noMeet_iff (fun k _=>celF_lt h1 k)
end
end Go.Proofs.Ytpkghjoippcjeaa
