/- Texts J44 to J46 of this proof, in one file. -/
import Derived.Test.YtpkghjoippcjeaaW08
namespace Go.Proofs.Ytpkghjoippcjeaa
set_option maxRecDepth 100000
set_option maxHeartbeats 16000000
section
open Go Go.RowKit
attribute [local go_sem] over_cell
attribute [local go_sem] Oper.semAt_some
theorem umod_c (x:Int) (n:Nat) (w:World) (hn:1≤n) (hn2:n≤1000000) :
  Calls Try.prog 40 #[.int .i64 x,.int .i64 (n:Int)] w fun e w'=>e = .returned (.int .i64 (x % (n:Int)))∧w=w':=by
 have hne:(n:Int)≠0:=by omega
 have hb:=Int.lt_tmod_of_pos x (show (0:Int)<(n:Int) by omega)
 have hb2:=Int.tmod_lt_of_pos x (show (0:Int)<(n:Int) by omega)
 go_enter Try.func40,Try.ntmps40
 go_wp2
 go_ret
 exact ⟨ret_int (tmod_up _ _),rfl⟩
structure Rul where
 n:Nat
 s0:Nat
 s1:Nat
 x0:Nat
 x1:Nat
 y0:Nat
 y1:Nat
def Rul.val (r:Rul):Value := .agg #[.int .i64 (r.n:Int),.int .i64 (r.s0:Int),.int .i64 (r.s1:Int),.int .i64 (r.x0:Int),.int .i64 (r.x1:Int),.int .i64 (r.y0:Int),.int .i64 (r.y1:Int)]
structure Rul.ok (r:Rul):Prop where
 n1:1≤r.n
 n2:r.n≤16
 s0:r.s0<r.n
 s1:r.s1<r.n
 x0:r.x0<r.n
 x1:r.x1<r.n
 y0:r.y0<r.n
 y1:r.y1<r.n
def atN (n s x y k:Nat):Nat:=(s+k % n*x+k / n*y) % n
def Rul.cell (r:Rul) (k:Nat):Nat:=atN r.n r.s0 r.x0 r.y0 k*r.n+atN r.n r.s1 r.x1 r.y1 k
theorem atN_lt {n s x y k:Nat} (h:1≤n):atN n s x y k<n:=Nat.mod_lt _ h
theorem Rul.cell_lt {r:Rul} (h:r.ok) (k:Nat):r.cell k<r.n*r.n:=gcell_lt (atN_lt h.n1) (atN_lt h.n1)
theorem at_parts {n s x y k:Nat} (hn:n≤16) (hn1:1≤n) (hk:k<n*n) (hx:x<n) (hy:y<n):∃p q:Nat,((k % n:Nat):Int)*(x:Int)=(p:Int)∧((k / n:Nat):Int)*(y:Int)=(q:Int)∧p≤256∧q≤256∧((s:Int)+(p:Int)+(q:Int)) % (n:Int)=(atN n s x y k:Int):=by
 have h1:k % n<n:=Nat.mod_lt _ hn1
 have h2:k / n<n:=Nat.div_lt_of_lt_mul hk
 refine ⟨k % n*x,k / n*y,by rw[Int.natCast_mul],by rw[Int.natCast_mul],Nat.mul_le_mul (show k % n≤16 by omega) (show x≤16 by omega),Nat.mul_le_mul (show k / n≤16 by omega) (show y≤16 by omega),?_⟩
 unfold atN
 rw[Int.natCast_emod,Int.natCast_add,Int.natCast_add]
def RulB (b n s0 s1 x0 x1 y0 y1:Nat) (W:World):Prop:=W.heap[b]?=some (.cells #[.int .i64 (n:Int),.int .i64 (s0:Int),.int .i64 (s1:Int),.int .i64 (x0:Int),.int .i64 (x1:Int),.int .i64 (y0:Int),.int .i64 (y1:Int)] 53 (0,0))
theorem RulB.keep {b n s0 s1 x0 x1 y0 y1:Nat} {W W':World} (h:RulB b n s0 s1 x0 x1 y0 y1 W) (hb:Below W.heap.size W W'):RulB b n s0 s1 x0 x1 y0 y1 W':=keepq hb h
theorem RulB.cells {b n s0 s1 x0 x1 y0 y1:Nat} {W:World} (h:RulB b n s0 s1 x0 x1 y0 y1 W):W.cell? ⟨b,0,none⟩=some (.int .i64 (n:Int))∧W.cell? ⟨b,1,none⟩=some (.int .i64 (s0:Int))∧W.cell? ⟨b,2,none⟩=some (.int .i64 (s1:Int))∧W.cell? ⟨b,3,none⟩=some (.int .i64 (x0:Int))∧W.cell? ⟨b,4,none⟩=some (.int .i64 (x1:Int))∧W.cell? ⟨b,5,none⟩=some (.int .i64 (y0:Int))∧W.cell? ⟨b,6,none⟩=some (.int .i64 (y1:Int))∧b<W.heap.size :=
 ⟨q_cell h 0,q_cell h 1,q_cell h 2,q_cell h 3,q_cell h 4,q_cell h 5,q_cell h 6,q_lt h⟩
def AtI (w:World) (bA bR n s0 s1 x0 x1 y0 y1:Nat) (v0 v1:Int) (W:World):Prop :=
 RulB bR n s0 s1 x0 x1 y0 y1 W∧W.heap[bA]?=some (.cells #[.int .i64 v0,.int .i64 v1] 22 (0,0))∧Below w.heap.size w W
theorem rcell_c (r:Rul) (k:Nat) (w:World) (h:r.ok) (hk:k<r.n*r.n) :
  Calls Try.prog 42 #[r.val,.int .i64 ((k+1:Nat):Int)] w fun e w'=>e = .returned (.int .i64 (r.cell k:Int))∧Below w.heap.size w w':=by
 obtain ⟨p0,q0,e1,e2,hp0,hq0,e3⟩:=at_parts (s:=r.s0) h.n2 h.n1 hk h.x0 h.y0
 obtain ⟨p1,q1,f1,f2,hp1,hq1,f3⟩:=at_parts (s:=r.s1) h.n2 h.n1 hk h.x1 h.y1
 have hnn:r.n*r.n≤256:=Nat.mul_le_mul h.n2 h.n2
 have hn1:=h.n1
 have hn2:=h.n2
 have t0:=atN_lt (s:=r.s0) (x:=r.x0) (y:=r.y0) (k:=k) h.n1
 have t1:=atN_lt (s:=r.s1) (x:=r.x1) (y:=r.y1) (k:=k) h.n1
 have hs0:=h.s0
 have hs1:=h.s1
 have HDV:Hid (wrap64 ((k:Int) / (r.n:Int))=((k / r.n:Nat):Int)):=divw (by omega)
 have HMV:Hid ((k:Int) % (r.n:Int)=((k % r.n:Nat):Int)):=modw
 have hkb:k≤256:=by omega
 obtain ⟨c,hc⟩:∃c,c=r.cell k:=⟨_,rfl⟩
 rw[← hc]
 unfold Rul.cell at hc
 unfold Rul.val
 generalize atN r.n r.s0 r.x0 r.y0 k=u0 at e3 t0 hc
 generalize atN r.n r.s1 r.x1 r.y1 k=u1 at f3 t1 hc
 obtain ⟨v,hv⟩:∃v,v=u0*r.n:=⟨_,rfl⟩
 have hv1:(u0:Int)*(r.n:Int)=(v:Int):=by rw[hv,Int.natCast_mul]
 have hv2:v≤256:=by rw[hv];exact Nat.mul_le_mul (show u0≤16 by omega) hn2
 have hv3:Hid ((c:Int)=(v:Int)+(u1:Int)):=by show (c:Int)=(v:Int)+(u1:Int);rw[hc,hv,Int.natCast_add]
 obtain ⟨x,hx⟩:∃x,x=k+1:=⟨_,rfl⟩
 rw[← hx]
 have hxk:(x:Int) - 1=(k:Int):=by omega
 have hx1:1≤x∧x≤257:=by omega
 have hnI:(r.n:Int)≠0:=by omega
 generalize k % r.n=A at e1 f1 HMV
 generalize k / r.n=B at e2 f2 HDV
 clear hc hv hx hk hnn
 obtain ⟨n,s0,s1,x0,x1,y0,y1⟩:=r
 dsimp only at *
 clear h
 go_enter Try.func42,Try.ntmps42
 go_upto_region 1 with fail
 have fsz:(w.alloc (.cells #[.int .i64 (n:Int),.int .i64 (s0:Int),.int .i64 (s1:Int),.int .i64 (x0:Int),.int .i64 (x1:Int),.int .i64 (y0:Int),.int .i64 (y1:Int)] 53)).heap.size=w.heap.size+1:=by simp only[World.size_alloc]
 have fB:Below w.heap.size w (w.alloc (.cells #[.int .i64 (n:Int),.int .i64 (s0:Int),.int .i64 (s1:Int),.int .i64 (x0:Int),.int .i64 (x1:Int),.int .i64 (y0:Int),.int .i64 (y1:Int)] 53)):=(Below.refl _ _).alloc (Nat.le_refl _) _
 have fq0:(w.alloc (.cells #[.int .i64 (n:Int),.int .i64 (s0:Int),.int .i64 (s1:Int),.int .i64 (x0:Int),.int .i64 (x1:Int),.int .i64 (y0:Int),.int .i64 (y1:Int)] 53)).heap[w.heap.size]?=some (.cells #[.int .i64 (n:Int),.int .i64 (s0:Int),.int .i64 (s1:Int),.int .i64 (x0:Int),.int .i64 (x1:Int),.int .i64 (y0:Int),.int .i64 (y1:Int)] 53 (0,0)):=by have h:=World.alloc_heap_new w (.cells #[.int .i64 (n:Int),.int .i64 (s0:Int),.int .i64 (s1:Int),.int .i64 (x0:Int),.int .i64 (x1:Int),.int .i64 (y0:Int),.int .i64 (y1:Int)] 53);exact h
 generalize (w.alloc (.cells #[.int .i64 (n:Int),.int .i64 (s0:Int),.int .i64 (s1:Int),.int .i64 (x0:Int),.int .i64 (x1:Int),.int .i64 (y0:Int),.int .i64 (y1:Int)] 53))=W0 at fsz fB fq0 ⊢
 have hR:RulB w.heap.size n s0 s1 x0 x1 y0 y1 W0:=fq0
 obtain ⟨r0,r1,r2,r3,r4,r5,r6,rl⟩:=hR.cells
 have HR:=Lib.hid hR
 have HE3:=Lib.hid e3
 have HF3:=Lib.hid f3
 have HE1:=Lib.hid e1
 have HE2:=Lib.hid e2
 have HF1:=Lib.hid f1
 have HF2:=Lib.hid f2
 have HV1:=Lib.hid hv1
 clear fsz fq0 hR e3 f3 e1 e2 f1 f2 hv1
 refine wp_region_S (fun w'=>∃u,w'=over (W0) u) [11] [(0,0),(0,1),(0,2),(0,3),(0,4),(0,5),(0,6),(0,7),(0,8),(0,9),(1,10),(2,11)] (by kernel_rfl) (by kernel_rfl) (by exact ⟨_,below_over (by repeat (first|assumption|exact Below.refl _ _|refine keep_drew ?_|refine keep_alloc ?_ _|refine keep_trans ?_ (by assumption)))⟩) ?_
 dsimp only[pickOps,nthOp]
 repeat (first|(refine wpS_skip rfl (fun K hK=>?_);go_big_quiet_op;refine hK _ ?_;clear hK K)|(refine wpS_quiet rfl rfl (fun K hK=>?_);go_big_quiet_op;refine hK _ ?_;clear hK K)|(refine wpS_loud ?_;go_wp2_with (fail);refine ⟨?_,?_⟩;focus (exact ⟨_,below_over (by repeat (first|assumption|exact Below.refl _ _|refine keep_drew ?_|refine keep_alloc ?_ _|refine keep_trans ?_ (by assumption)))⟩)))
 refine wpS_late _ _ _ rfl ?_
 dsimp only[List.map]
 go_wp2_with (fail)
 refine NoPanic.normal ?_
 rw[HMV.out,HDV.out]
 go_upto_region 3 with fail
 have gB:Below W0.heap.size W0 ((W0.alloc (.cells #[.int .i64 0,.int .i64 0] 22)).drew):=keep_drew (keep_alloc (Below.refl _ _) _)
 have gq0:((W0.alloc (.cells #[.int .i64 0,.int .i64 0] 22)).drew).heap[W0.heap.size]?=some (.cells #[.int .i64 0,.int .i64 0] 22 (0,0)):=keepq (keep_drew (Below.refl _ _)) (World.alloc_heap_new _ _)
 generalize ((W0.alloc (.cells #[.int .i64 0,.int .i64 0] 22)).drew)=W2 at gB gq0 ⊢
 have HST:Hid (AtI w W0.heap.size w.heap.size n s0 s1 x0 x1 y0 y1 0 0 W2):=⟨HR.out.keep gB,gq0,keep_trans fB gB⟩
 have HGL:Hid (w.heap.size<W0.heap.size):=rl
 obtain ⟨bA,hbA⟩:∃b,b=W0.heap.size:=⟨_,rfl⟩
 rw[← hbA] at HST HGL ⊢
 clear hbA gB gq0 r0 r1 r2 r3 r4 r5 r6 rl HR fB
 go_wp2_with fail
 go_loopw [8,19] (fun _ iv wr=>∃i:Nat,i≤2∧iv = .int .i64 (i:Int)∧Hid (AtI w bA w.heap.size n s0 s1 x0 x1 y0 y1 (if 0<i then (u0:Int) else 0) (if 1<i then (u1:Int) else 0) wr)) (fun _ iv _=>2 - (intOf iv).toNat)
 case atStart=>exact ⟨0,by omega,rfl,HST⟩
 case round =>
  obtain ⟨i,hi,rfl,hI⟩:=hrel
  clear HST
  have hgl:=HGL.out
  obtain ⟨hR,qA,hbr⟩:=hI.out
  obtain ⟨r0,r1,r2,r3,r4,r5,r6,rl⟩:=hR.cells
  have HR:=Lib.hid hR
  have QA:=Lib.hid qA
  have a0:=q_cell qA 0
  have a1:=q_cell qA 1
  have af0:=q_free qA 0
  have af1:=q_free qA 1
  have al:=q_lt qA
  clear hI hR qA
  match i,hi with
  | 0,_ =>
   have e1:=HE1.out
   have e2:=HE2.out
   go_wp2_with fail
   refine wp_region_S (fun w'=>∃u,w'=over (wr) u) [23] [(0,0),(0,1),(0,2),(0,3),(0,4),(0,5),(0,6),(0,7),(0,8),(0,9),(0,10),(0,11),(0,12),(0,13),(0,14),(0,15),(0,16),(0,17),(0,18),(0,19),(0,20),(0,21),(0,22),(2,23)] (by kernel_rfl) (by kernel_rfl) (by exact ⟨_,below_over (by repeat (first|assumption|exact Below.refl _ _|refine keep_drew ?_|refine keep_alloc ?_ _|refine keep_trans ?_ (by assumption)))⟩) ?_
   dsimp only[pickOps,nthOp]
   repeat (first|(refine wpS_skip rfl (fun K hK=>?_);go_big_quiet_op;refine hK _ ?_;clear hK K)|(refine wpS_quiet rfl rfl (fun K hK=>?_);go_big_quiet_op;refine hK _ ?_;clear hK K))
   refine wpS_late _ _ _ rfl ?_
   dsimp only[List.map]
   go_wp2_with (fail)
   refine NoPanic.normal ?_
   rw[HE3.out]
   have HN:Hid (AtI w bA w.heap.size n s0 s1 x0 x1 y0 y1 (u0:Int) 0 ((wr.setCell ⟨bA,0,none⟩ (.int .i64 (u0:Int))).drew)):=by
    have h1:=hbr.setCell (p:=⟨bA,0,none⟩) (show w.heap.size≤bA by omega) (.int .i64 (u0:Int))
    have h2:=q_set (i:=0) QA.out (.int .i64 (u0:Int))
    have h3:=q_other (i:=0) HR.out (show w.heap.size≠bA by omega) (.int .i64 (u0:Int))
    exact ⟨keepq (keep_drew (Below.refl _ _)) h3,keepq (keep_drew (Below.refl _ _)) h2,h1.drew⟩
   clear a0 a1 af0 af1 al r0 r1 r2 r3 r4 r5 r6 rl QA HR hbr e1 e2
   generalize ((wr.setCell ⟨bA,0,none⟩ (.int .i64 (u0:Int))).drew)=W8 at HN ⊢
   go_wp2_with fail
   go_roundw
   case rel=>exact ⟨1,by omega,by go_num,HN⟩
   case measure=>simp[intOf]
  | 1,_ =>
   have e1:=HF1.out
   have e2:=HF2.out
   go_wp2_with fail
   refine wp_region_S (fun w'=>∃u,w'=over (wr) u) [23] [(0,0),(0,1),(0,2),(0,3),(0,4),(0,5),(0,6),(0,7),(0,8),(0,9),(0,10),(0,11),(0,12),(0,13),(0,14),(0,15),(0,16),(0,17),(0,18),(0,19),(0,20),(0,21),(0,22),(2,23)] (by kernel_rfl) (by kernel_rfl) (by exact ⟨_,below_over (by repeat (first|assumption|exact Below.refl _ _|refine keep_drew ?_|refine keep_alloc ?_ _|refine keep_trans ?_ (by assumption)))⟩) ?_
   dsimp only[pickOps,nthOp]
   repeat (first|(refine wpS_skip rfl (fun K hK=>?_);go_big_quiet_op;refine hK _ ?_;clear hK K)|(refine wpS_quiet rfl rfl (fun K hK=>?_);go_big_quiet_op;refine hK _ ?_;clear hK K))
   refine wpS_late _ _ _ rfl ?_
   dsimp only[List.map]
   go_wp2_with (fail)
   refine NoPanic.normal ?_
   rw[HF3.out]
   have HN:Hid (AtI w bA w.heap.size n s0 s1 x0 x1 y0 y1 (u0:Int) (u1:Int) ((wr.setCell ⟨bA,1,none⟩ (.int .i64 (u1:Int))).drew)):=by
    have h1:=hbr.setCell (p:=⟨bA,1,none⟩) (show w.heap.size≤bA by omega) (.int .i64 (u1:Int))
    have h2:=q_set (i:=1) QA.out (.int .i64 (u1:Int))
    have h3:=q_other (i:=1) HR.out (show w.heap.size≠bA by omega) (.int .i64 (u1:Int))
    exact ⟨keepq (keep_drew (Below.refl _ _)) h3,keepq (keep_drew (Below.refl _ _)) h2,h1.drew⟩
   clear a0 a1 af0 af1 al r0 r1 r2 r3 r4 r5 r6 rl QA HR hbr e1 e2
   generalize ((wr.setCell ⟨bA,1,none⟩ (.int .i64 (u1:Int))).drew)=W8 at HN ⊢
   go_wp2_with fail
   go_roundw
   case rel=>exact ⟨2,by omega,by go_num,HN⟩
   case measure=>simp[intOf]
  | 2,_ =>
   have hv1:=HV1.out
   have b0:wr.cell? ⟨bA,0,none⟩=some (.int .i64 (u0:Int)):=a0
   have b1:wr.cell? ⟨bA,1,none⟩=some (.int .i64 (u1:Int)):=a1
   clear a0 a1
   go_wp2_with fail
   go_ret
   exact ⟨ret_int hv3.out.symm,hbr⟩
end
section
open Go Go.RowKit
attribute [local go_sem] over_cell
attribute [local go_sem] Oper.semAt_some
theorem c7_of {w:World} {b:Nat} {v0 v1 v2 v3 v4 v5 v6:Value} {T:TypeId} (h:w.heap[b]?=some (.cells #[v0,v1,v2,v3,v4,v5,v6] T (0,0))):(w.cell? ⟨b,0,none⟩=some v0∧w.cell? ⟨b,1,none⟩=some v1∧w.cell? ⟨b,2,none⟩=some v2∧w.cell? ⟨b,3,none⟩=some v3∧w.cell? ⟨b,4,none⟩=some v4∧w.cell? ⟨b,5,none⟩=some v5∧w.cell? ⟨b,6,none⟩=some v6∧b<w.heap.size)∧w.frozen? ⟨b,0,none⟩=false∧w.frozen? ⟨b,1,none⟩=false∧w.frozen? ⟨b,2,none⟩=false∧w.frozen? ⟨b,3,none⟩=false∧w.frozen? ⟨b,4,none⟩=false∧w.frozen? ⟨b,5,none⟩=false∧w.frozen? ⟨b,6,none⟩=false :=
 ⟨⟨q_cell h 0,q_cell h 1,q_cell h 2,q_cell h 3,q_cell h 4,q_cell h 5,q_cell h 6,q_lt h⟩,q_free h 0,q_free h 1,q_free h 2,q_free h 3,q_free h 4,q_free h 5,q_free h 6⟩
def RdI (w:World) (n a0 a1 b0 b1 c0 c1 u0 u1 x0 x1 y0 y1:Int) (W:World):Prop :=
 W.heap[w.heap.size]?=some (.cells #[.int .i64 n,.int .i64 a0,.int .i64 a1,.int .i64 b0,.int .i64 b1,.int .i64 c0,.int .i64 c1] 24 (0,0)) ∧
 W.heap[w.heap.size+1]?=some (.cells #[.int .i64 0,.int .i64 0,.int .i64 0,.int .i64 0,.int .i64 0,.int .i64 0,.int .i64 0] 53 (0,0)) ∧
 W.heap[w.heap.size+2]?=some (.cells #[.int .i64 n,.int .i64 u0,.int .i64 u1,.int .i64 x0,.int .i64 x1,.int .i64 y0,.int .i64 y1] 53 (0,0))∧Below w.heap.size w W
theorem ureduced_c (n:Nat) (a0 a1 b0 b1 c0 c1:Int) (w:World) (h1:1≤n) (h2:n≤16) :
  Calls Try.prog 19 #[.agg #[.int .i64 (n:Int),.int .i64 a0,.int .i64 a1,.int .i64 b0,.int .i64 b1,.int .i64 c0,.int .i64 c1]] w fun e w' =>
   e = .returned (.agg #[.int .i64 (n:Int),.int .i64 (a0 % (n:Int)),.int .i64 (a1 % (n:Int)),.int .i64 (b0 % (n:Int)),.int .i64 (b1 % (n:Int)),.int .i64 (c0 % (n:Int)),.int .i64 (c1 % (n:Int))])∧Below w.heap.size w w':=by
 obtain ⟨md,hmd⟩:∃md:Int→Int,∀x,x % (n:Int)=md x:=⟨fun x=>x % (n:Int),fun _=>rfl⟩
 have HM:Hid (∀x W,Calls Try.prog 40 #[.int .i64 x,.int .i64 (n:Int)] W fun e w'=>e = .returned (.int .i64 (md x))∧W=w'):=fun x W=>by rw[← hmd];exact umod_c x n W h1 (by omega)
 rw[hmd,hmd,hmd,hmd,hmd,hmd]
 clear hmd
 clear h1 h2
 go_enter Try.func19,Try.ntmps19
 go_upto_region 2 with fail
 have fsz:(((w.alloc (.cells #[.int .i64 (n:Int),.int .i64 a0,.int .i64 a1,.int .i64 b0,.int .i64 b1,.int .i64 c0,.int .i64 c1] 24)).alloc (.cells #[.int .i64 0,.int .i64 0,.int .i64 0,.int .i64 0,.int .i64 0,.int .i64 0,.int .i64 0] 53)).alloc (.cells #[.int .i64 (n:Int),.int .i64 0,.int .i64 0,.int .i64 0,.int .i64 0,.int .i64 0,.int .i64 0] 53)).heap.size=w.heap.size+3:=by simp only[World.size_alloc] <;> omega
 have fB:Below w.heap.size w (((w.alloc (.cells #[.int .i64 (n:Int),.int .i64 a0,.int .i64 a1,.int .i64 b0,.int .i64 b1,.int .i64 c0,.int .i64 c1] 24)).alloc (.cells #[.int .i64 0,.int .i64 0,.int .i64 0,.int .i64 0,.int .i64 0,.int .i64 0,.int .i64 0] 53)).alloc (.cells #[.int .i64 (n:Int),.int .i64 0,.int .i64 0,.int .i64 0,.int .i64 0,.int .i64 0,.int .i64 0] 53)):=(((Below.refl _ _).alloc (Nat.le_refl _) _).alloc (by simp only[World.size_alloc];omega) _).alloc (by simp only[World.size_alloc];omega) _
 have fq0:(((w.alloc (.cells #[.int .i64 (n:Int),.int .i64 a0,.int .i64 a1,.int .i64 b0,.int .i64 b1,.int .i64 c0,.int .i64 c1] 24)).alloc (.cells #[.int .i64 0,.int .i64 0,.int .i64 0,.int .i64 0,.int .i64 0,.int .i64 0,.int .i64 0] 53)).alloc (.cells #[.int .i64 (n:Int),.int .i64 0,.int .i64 0,.int .i64 0,.int .i64 0,.int .i64 0,.int .i64 0] 53)).heap[w.heap.size]?=some (.cells #[.int .i64 (n:Int),.int .i64 a0,.int .i64 a1,.int .i64 b0,.int .i64 b1,.int .i64 c0,.int .i64 c1] 24 (0,0)):=by have h:=World.alloc_heap_new w (.cells #[.int .i64 (n:Int),.int .i64 a0,.int .i64 a1,.int .i64 b0,.int .i64 b1,.int .i64 c0,.int .i64 c1] 24);exact (Below.heap_alloc _ _ _ (by simp only[World.size_alloc];omega)).trans ((Below.heap_alloc _ _ _ (by simp only[World.size_alloc];omega)).trans (h))
 have fq1:(((w.alloc (.cells #[.int .i64 (n:Int),.int .i64 a0,.int .i64 a1,.int .i64 b0,.int .i64 b1,.int .i64 c0,.int .i64 c1] 24)).alloc (.cells #[.int .i64 0,.int .i64 0,.int .i64 0,.int .i64 0,.int .i64 0,.int .i64 0,.int .i64 0] 53)).alloc (.cells #[.int .i64 (n:Int),.int .i64 0,.int .i64 0,.int .i64 0,.int .i64 0,.int .i64 0,.int .i64 0] 53)).heap[w.heap.size+1]?=some (.cells #[.int .i64 0,.int .i64 0,.int .i64 0,.int .i64 0,.int .i64 0,.int .i64 0,.int .i64 0] 53 (0,0)):=by have h:=World.alloc_heap_new (w.alloc (.cells #[.int .i64 (n:Int),.int .i64 a0,.int .i64 a1,.int .i64 b0,.int .i64 b1,.int .i64 c0,.int .i64 c1] 24)) (.cells #[.int .i64 0,.int .i64 0,.int .i64 0,.int .i64 0,.int .i64 0,.int .i64 0,.int .i64 0] 53);simp only[World.size_alloc] at h;exact (Below.heap_alloc _ _ _ (by simp only[World.size_alloc];omega)).trans (h)
 have fq2:(((w.alloc (.cells #[.int .i64 (n:Int),.int .i64 a0,.int .i64 a1,.int .i64 b0,.int .i64 b1,.int .i64 c0,.int .i64 c1] 24)).alloc (.cells #[.int .i64 0,.int .i64 0,.int .i64 0,.int .i64 0,.int .i64 0,.int .i64 0,.int .i64 0] 53)).alloc (.cells #[.int .i64 (n:Int),.int .i64 0,.int .i64 0,.int .i64 0,.int .i64 0,.int .i64 0,.int .i64 0] 53)).heap[w.heap.size+1+1]?=some (.cells #[.int .i64 (n:Int),.int .i64 0,.int .i64 0,.int .i64 0,.int .i64 0,.int .i64 0,.int .i64 0] 53 (0,0)):=by have h:=World.alloc_heap_new ((w.alloc (.cells #[.int .i64 (n:Int),.int .i64 a0,.int .i64 a1,.int .i64 b0,.int .i64 b1,.int .i64 c0,.int .i64 c1] 24)).alloc (.cells #[.int .i64 0,.int .i64 0,.int .i64 0,.int .i64 0,.int .i64 0,.int .i64 0,.int .i64 0] 53)) (.cells #[.int .i64 (n:Int),.int .i64 0,.int .i64 0,.int .i64 0,.int .i64 0,.int .i64 0,.int .i64 0] 53);simp only[World.size_alloc] at h;exact h
 generalize (((w.alloc (.cells #[.int .i64 (n:Int),.int .i64 a0,.int .i64 a1,.int .i64 b0,.int .i64 b1,.int .i64 c0,.int .i64 c1] 24)).alloc (.cells #[.int .i64 0,.int .i64 0,.int .i64 0,.int .i64 0,.int .i64 0,.int .i64 0,.int .i64 0] 53)).alloc (.cells #[.int .i64 (n:Int),.int .i64 0,.int .i64 0,.int .i64 0,.int .i64 0,.int .i64 0,.int .i64 0] 53))=W0 at fsz fB fq0 fq1 fq2 ⊢
 have HST:Hid (RdI w n a0 a1 b0 b1 c0 c1 0 0 0 0 0 0 W0):=⟨fq0,fq1,fq2,fB⟩
 clear fsz fq0 fq1 fq2 fB
 go_wp2_with fail
 go_loopw [4,8] (fun _ iv wr=>∃i:Nat,i≤2∧iv = .int .i64 (i:Int)∧Hid (RdI w n a0 a1 b0 b1 c0 c1 (if 0<i then md a0 else 0) (if 1<i then md a1 else 0) (if 0<i then md b0 else 0) (if 1<i then md b1 else 0) (if 0<i then md c0 else 0) (if 1<i then md c1 else 0) wr)) (fun _ iv _=>2 - (intOf iv).toNat)
 case atStart=>exact ⟨0,by omega,rfl,HST⟩
 case round =>
  obtain ⟨i,hi,rfl,hI⟩:=hrel
  clear HST
  match i,hi with
  | 0,_ =>
   have hI1:Hid (RdI w n a0 a1 b0 b1 c0 c1 0 0 0 0 0 0 wr):=hI
   clear hI
   obtain ⟨q0,q1,q2,hbr⟩:=hI1.out
   obtain ⟨⟨t0,t1,t2,t3,t4,t5,t6,tl⟩,tf0,tf1,tf2,tf3,tf4,tf5,tf6⟩:=c7_of q2
   have hBt:w.heap.size+1+1≤wr.heap.size:=Nat.le_of_lt tl
   have hcs:=cutW_size hBt
   have hcb:=cutW_below hBt
   have q0s:(cutW wr (w.heap.size+1+1)).heap[w.heap.size]?=some (.cells #[.int .i64 n,.int .i64 a0,.int .i64 a1,.int .i64 b0,.int .i64 b1,.int .i64 c0,.int .i64 c1] 24 (0,0)):=(hcb.block _ (by rw[hcs];omega)).symm.trans q0
   generalize (cutW wr (w.heap.size+1+1))=S at hcs hcb q0s
   obtain ⟨⟨s0,s1,s2,s3,s4,s5,s6,sl⟩,_⟩:=c7_of q0s
   have hS1:Below S.heap.size S (wr.setCell ⟨w.heap.size+1+1,1,none⟩ (.int .i64 (md a0))):=hcb.setCell (p:=⟨w.heap.size+1+1,1,none⟩) (by rw[hcs];exact Nat.le_refl _) _
   have hS2:Below S.heap.size S ((wr.setCell ⟨w.heap.size+1+1,1,none⟩ (.int .i64 (md a0))).setCell ⟨w.heap.size+1+1,3,none⟩ (.int .i64 (md b0))):=hS1.setCell (p:=⟨w.heap.size+1+1,3,none⟩) (by rw[hcs];exact Nat.le_refl _) _
   have hS3:Below S.heap.size S (((wr.setCell ⟨w.heap.size+1+1,1,none⟩ (.int .i64 (md a0))).setCell ⟨w.heap.size+1+1,3,none⟩ (.int .i64 (md b0))).setCell ⟨w.heap.size+1+1,5,none⟩ (.int .i64 (md c0))):=hS2.setCell (p:=⟨w.heap.size+1+1,5,none⟩) (by rw[hcs];exact Nat.le_refl _) _
   have HN:Hid (RdI w n a0 a1 b0 b1 c0 c1 (md a0) 0 (md b0) 0 (md c0) 0 (((wr.setCell ⟨w.heap.size+1+1,1,none⟩ (.int .i64 (md a0))).setCell ⟨w.heap.size+1+1,3,none⟩ (.int .i64 (md b0))).setCell ⟨w.heap.size+1+1,5,none⟩ (.int .i64 (md c0))).drew):=by
    have z1:=q_set (i:=5) (q_set (i:=3) (q_set (i:=1) q2 (.int .i64 (md a0))) (.int .i64 (md b0))) (.int .i64 (md c0))
    have z2:=q_other (i:=5) (q_other (i:=3) (q_other (i:=1) q1 (show w.heap.size+1≠w.heap.size+1+1 by omega) (.int .i64 (md a0))) (show w.heap.size+1≠w.heap.size+1+1 by omega) (.int .i64 (md b0))) (show w.heap.size+1≠w.heap.size+1+1 by omega) (.int .i64 (md c0))
    have z3:=q_other (i:=5) (q_other (i:=3) (q_other (i:=1) q0 (show w.heap.size≠w.heap.size+1+1 by omega) (.int .i64 (md a0))) (show w.heap.size≠w.heap.size+1+1 by omega) (.int .i64 (md b0))) (show w.heap.size≠w.heap.size+1+1 by omega) (.int .i64 (md c0))
    have z4:=((hbr.setCell (p:=⟨w.heap.size+1+1,1,none⟩) (show w.heap.size≤w.heap.size+1+1 by omega) (.int .i64 (md a0))).setCell (p:=⟨w.heap.size+1+1,3,none⟩) (show w.heap.size≤w.heap.size+1+1 by omega) (.int .i64 (md b0))).setCell (p:=⟨w.heap.size+1+1,5,none⟩) (show w.heap.size≤w.heap.size+1+1 by omega) (.int .i64 (md c0))
    exact ⟨keepq (keep_drew (Below.refl _ _)) z3,keepq (keep_drew (Below.refl _ _)) z2,keepq (keep_drew (Below.refl _ _)) z1,z4.drew⟩
   clear q0 q1 q2 q0s hI1 hbr
   go_wp2_with fail
   refine wp_region_S (fun w'=>∃u,w'=over (S) u) [32] [(0,0),(0,1),(0,2),(0,3),(0,4),(0,5),(0,6),(0,7),(0,8),(0,10),(0,11),(0,12),(0,13),(0,14),(0,15),(0,17),(0,18),(0,19),(0,20),(0,21),(0,22),(0,24),(0,27),(0,30),(1,9),(0,25),(1,16),(1,23),(1,26),(0,28),(1,29),(0,31),(2,32)] (by kernel_rfl) (by kernel_rfl) (by exact ⟨_,below_over (by repeat (first|assumption|exact Below.refl _ _|refine keep_drew ?_|refine keep_alloc ?_ _|refine keep_trans ?_ (by assumption)))⟩) ?_
   dsimp only[pickOps,nthOp]
   repeat (first|(refine wpS_skip rfl (fun K hK=>?_);go_big_quiet_op;refine hK _ ?_;clear hK K)|(refine wpS_quiet rfl rfl (fun K hK=>?_);go_big_quiet_op;refine hK _ ?_;clear hK K)|(refine wpS_loud ?_;go_wp2_with ((go_at_call 40;refine (HM.out _ _).mono ?_;rintro _ w1 ⟨rfl,rfl⟩));refine ⟨?_,?_⟩;focus (exact ⟨_,below_over (by repeat (first|assumption|exact Below.refl _ _|refine keep_drew ?_|refine keep_alloc ?_ _|refine keep_trans ?_ (by assumption)))⟩)))
   refine wpS_late _ _ _ rfl ?_
   dsimp only[List.map]
   go_wp2_with ((go_at_call 40;refine (HM.out _ _).mono ?_;rintro _ w1 ⟨rfl,rfl⟩))
   refine NoPanic.normal ?_
   clear hS1 hS2 hS3 s0 s1 s2 s3 s4 s5 s6 sl t0 t1 t2 t3 t4 t5 t6 tl tf0 tf1 tf2 tf3 tf4 tf5 tf6 hcb hcs
   generalize (((wr.setCell ⟨w.heap.size+1+1,1,none⟩ (.int .i64 (md a0))).setCell ⟨w.heap.size+1+1,3,none⟩ (.int .i64 (md b0))).setCell ⟨w.heap.size+1+1,5,none⟩ (.int .i64 (md c0))).drew=W8 at HN ⊢
   go_wp2_with fail
   go_roundw
   case rel=>exact ⟨1,by omega,by go_num,HN⟩
   case measure=>simp[intOf]
  | 1,_ =>
   have hI1:Hid (RdI w n a0 a1 b0 b1 c0 c1 (md a0) 0 (md b0) 0 (md c0) 0 wr):=hI
   clear hI
   obtain ⟨q0,q1,q2,hbr⟩:=hI1.out
   obtain ⟨⟨t0,t1,t2,t3,t4,t5,t6,tl⟩,tf0,tf1,tf2,tf3,tf4,tf5,tf6⟩:=c7_of q2
   have hBt:w.heap.size+1+1≤wr.heap.size:=Nat.le_of_lt tl
   have hcs:=cutW_size hBt
   have hcb:=cutW_below hBt
   have q0s:(cutW wr (w.heap.size+1+1)).heap[w.heap.size]?=some (.cells #[.int .i64 n,.int .i64 a0,.int .i64 a1,.int .i64 b0,.int .i64 b1,.int .i64 c0,.int .i64 c1] 24 (0,0)):=(hcb.block _ (by rw[hcs];omega)).symm.trans q0
   generalize (cutW wr (w.heap.size+1+1))=S at hcs hcb q0s
   obtain ⟨⟨s0,s1,s2,s3,s4,s5,s6,sl⟩,_⟩:=c7_of q0s
   have hS1:Below S.heap.size S (wr.setCell ⟨w.heap.size+1+1,2,none⟩ (.int .i64 (md a1))):=hcb.setCell (p:=⟨w.heap.size+1+1,2,none⟩) (by rw[hcs];exact Nat.le_refl _) _
   have hS2:Below S.heap.size S ((wr.setCell ⟨w.heap.size+1+1,2,none⟩ (.int .i64 (md a1))).setCell ⟨w.heap.size+1+1,4,none⟩ (.int .i64 (md b1))):=hS1.setCell (p:=⟨w.heap.size+1+1,4,none⟩) (by rw[hcs];exact Nat.le_refl _) _
   have hS3:Below S.heap.size S (((wr.setCell ⟨w.heap.size+1+1,2,none⟩ (.int .i64 (md a1))).setCell ⟨w.heap.size+1+1,4,none⟩ (.int .i64 (md b1))).setCell ⟨w.heap.size+1+1,6,none⟩ (.int .i64 (md c1))):=hS2.setCell (p:=⟨w.heap.size+1+1,6,none⟩) (by rw[hcs];exact Nat.le_refl _) _
   have HN:Hid (RdI w n a0 a1 b0 b1 c0 c1 (md a0) (md a1) (md b0) (md b1) (md c0) (md c1) (((wr.setCell ⟨w.heap.size+1+1,2,none⟩ (.int .i64 (md a1))).setCell ⟨w.heap.size+1+1,4,none⟩ (.int .i64 (md b1))).setCell ⟨w.heap.size+1+1,6,none⟩ (.int .i64 (md c1))).drew):=by
    have z1:=q_set (i:=6) (q_set (i:=4) (q_set (i:=2) q2 (.int .i64 (md a1))) (.int .i64 (md b1))) (.int .i64 (md c1))
    have z2:=q_other (i:=6) (q_other (i:=4) (q_other (i:=2) q1 (show w.heap.size+1≠w.heap.size+1+1 by omega) (.int .i64 (md a1))) (show w.heap.size+1≠w.heap.size+1+1 by omega) (.int .i64 (md b1))) (show w.heap.size+1≠w.heap.size+1+1 by omega) (.int .i64 (md c1))
    have z3:=q_other (i:=6) (q_other (i:=4) (q_other (i:=2) q0 (show w.heap.size≠w.heap.size+1+1 by omega) (.int .i64 (md a1))) (show w.heap.size≠w.heap.size+1+1 by omega) (.int .i64 (md b1))) (show w.heap.size≠w.heap.size+1+1 by omega) (.int .i64 (md c1))
    have z4:=((hbr.setCell (p:=⟨w.heap.size+1+1,2,none⟩) (show w.heap.size≤w.heap.size+1+1 by omega) (.int .i64 (md a1))).setCell (p:=⟨w.heap.size+1+1,4,none⟩) (show w.heap.size≤w.heap.size+1+1 by omega) (.int .i64 (md b1))).setCell (p:=⟨w.heap.size+1+1,6,none⟩) (show w.heap.size≤w.heap.size+1+1 by omega) (.int .i64 (md c1))
    exact ⟨keepq (keep_drew (Below.refl _ _)) z3,keepq (keep_drew (Below.refl _ _)) z2,keepq (keep_drew (Below.refl _ _)) z1,z4.drew⟩
   clear q0 q1 q2 q0s hI1 hbr
   go_wp2_with fail
   refine wp_region_S (fun w'=>∃u,w'=over (S) u) [32] [(0,0),(0,1),(0,2),(0,3),(0,4),(0,5),(0,6),(0,7),(0,8),(0,10),(0,11),(0,12),(0,13),(0,14),(0,15),(0,17),(0,18),(0,19),(0,20),(0,21),(0,22),(0,24),(0,27),(0,30),(1,9),(0,25),(1,16),(1,23),(1,26),(0,28),(1,29),(0,31),(2,32)] (by kernel_rfl) (by kernel_rfl) (by exact ⟨_,below_over (by repeat (first|assumption|exact Below.refl _ _|refine keep_drew ?_|refine keep_alloc ?_ _|refine keep_trans ?_ (by assumption)))⟩) ?_
   dsimp only[pickOps,nthOp]
   repeat (first|(refine wpS_skip rfl (fun K hK=>?_);go_big_quiet_op;refine hK _ ?_;clear hK K)|(refine wpS_quiet rfl rfl (fun K hK=>?_);go_big_quiet_op;refine hK _ ?_;clear hK K)|(refine wpS_loud ?_;go_wp2_with ((go_at_call 40;refine (HM.out _ _).mono ?_;rintro _ w1 ⟨rfl,rfl⟩));refine ⟨?_,?_⟩;focus (exact ⟨_,below_over (by repeat (first|assumption|exact Below.refl _ _|refine keep_drew ?_|refine keep_alloc ?_ _|refine keep_trans ?_ (by assumption)))⟩)))
   refine wpS_late _ _ _ rfl ?_
   dsimp only[List.map]
   go_wp2_with ((go_at_call 40;refine (HM.out _ _).mono ?_;rintro _ w1 ⟨rfl,rfl⟩))
   refine NoPanic.normal ?_
   clear hS1 hS2 hS3 s0 s1 s2 s3 s4 s5 s6 sl t0 t1 t2 t3 t4 t5 t6 tl tf0 tf1 tf2 tf3 tf4 tf5 tf6 hcb hcs
   generalize (((wr.setCell ⟨w.heap.size+1+1,2,none⟩ (.int .i64 (md a1))).setCell ⟨w.heap.size+1+1,4,none⟩ (.int .i64 (md b1))).setCell ⟨w.heap.size+1+1,6,none⟩ (.int .i64 (md c1))).drew=W8 at HN ⊢
   go_wp2_with fail
   go_roundw
   case rel=>exact ⟨2,by omega,by go_num,HN⟩
   case measure=>simp[intOf]
  | 2,_ =>
   have hI1:Hid (RdI w n a0 a1 b0 b1 c0 c1 (md a0) (md a1) (md b0) (md b1) (md c0) (md c1) wr):=hI
   clear hI
   obtain ⟨q0,q1,q2,hbr⟩:=hI1.out
   obtain ⟨⟨t0,t1,t2,t3,t4,t5,t6,tl⟩,_⟩:=c7_of q2
   obtain ⟨⟨s0,s1,s2,s3,s4,s5,s6,sl⟩,sf0,sf1,sf2,sf3,sf4,sf5,sf6⟩:=c7_of q1
   have Q1:=Lib.hid q1
   clear q0 q1 q2 hI1
   go_wp2_with fail
   have g7:=q_set (i:=6) (q_set (i:=5) (q_set (i:=4) (q_set (i:=3) (q_set (i:=2) (q_set (i:=1) (q_set (i:=0) Q1.out (.int .i64 (n:Int))) (.int .i64 (md a0))) (.int .i64 (md a1))) (.int .i64 (md b0))) (.int .i64 (md b1))) (.int .i64 (md c0))) (.int .i64 (md c1))
   have hl:w.heap.size≤w.heap.size+1:=by omega
   have hB7:=((((((hbr.setCell (p:=⟨w.heap.size+1,0,none⟩) hl (.int .i64 (n:Int))).setCell (p:=⟨w.heap.size+1,1,none⟩) hl (.int .i64 (md a0))).setCell (p:=⟨w.heap.size+1,2,none⟩) hl (.int .i64 (md a1))).setCell (p:=⟨w.heap.size+1,3,none⟩) hl (.int .i64 (md b0))).setCell (p:=⟨w.heap.size+1,4,none⟩) hl (.int .i64 (md b1))).setCell (p:=⟨w.heap.size+1,5,none⟩) hl (.int .i64 (md c0))).setCell (p:=⟨w.heap.size+1,6,none⟩) hl (.int .i64 (md c1))
   obtain ⟨⟨z0,z1,z2,z3,z4,z5,z6,zl⟩,_⟩:=c7_of g7
   refine bodyPost_ret (v := .agg #[.int .i64 (n:Int),.int .i64 (md a0),.int .i64 (md a1),.int .i64 (md b0),.int .i64 (md b1),.int .i64 (md c0),.int .i64 (md c1)]) ?_ rfl ⟨rfl,hB7⟩
   simp[results,Try.f19,go_sem,z0,z1,z2,z3,z4,z5,z6]
end
section
open Go Go.RowKit
attribute [local go_sem] over_cell
attribute [local go_sem] Oper.semAt_some
def layTo (r:Rul):Nat→List Int
 | 0=>List.replicate (r.n*r.n) 0
 | k+1=>(layTo r k).set (r.cell k) ((k:Int)+1)
theorem layTo_len (r:Rul) (k:Nat):(layTo r k).length=r.n*r.n:=by
 induction k with
 | zero=>simp[layTo]
 | succ k ih=>unfold layTo;rw[List.length_set,ih]
def NoMeetR (r:Rul):Prop:=∀k,k<r.n*r.n→(layTo r k)[r.cell k]?.getD 0=0
def LayI (w:World) (r:Rul) (b9 g m:Nat) (xs:List Int) (W:World):Prop :=
 RulB w.heap.size r.n r.s0 r.s1 r.x0 r.x1 r.y0 r.y1 W∧W.heap[w.heap.size+1]?=some (.cells #[.int .i64 0,.int .i64 0,.slice none 0 0] 31 (0,0))∧W.heap[w.heap.size+2]?=some (.cells #[.int .i64 0,.int .i64 0] 22 (0,0)) ∧
 W.heap[b9]?=some (.cells #[.int .i64 (r.n:Int),.int .i64 (r.n:Int),.slice (some ⟨g,0,none⟩) m m] 31 (0,0))∧W.ownsRow (w.heap.size+3) 3 1 (.slice (some ⟨g,0,none⟩) m m) m (xs.map (Value.int .i64))∧Below w.heap.size w W∧w.heap.size+2<g∧g<b9
theorem LayI.set {w:World} {r:Rul} {b9 g m:Nat} {xs:List Int} {W:World} (h:LayI w r b9 g m xs W) (i:Nat) (x:Int):LayI w r b9 g m (xs.set i x) (W.setCell ⟨g,i,none⟩ (.int .i64 x)):=by
 obtain ⟨h1,h2,h3,h4,h5,h6,h7,h8⟩:=h
 refine ⟨q_other h1 (by omega) _,q_other h2 (by omega) _,q_other h3 (by omega) _,q_other h4 (by omega) _,?_,h6.setCell (p:=⟨g,i,none⟩) (by show w.heap.size≤g;omega) _,h7,h8⟩
 rw[List.map_set]
 exact owns_set h5 i _
theorem LayI.below {w:World} {r:Rul} {b9 g m:Nat} {xs:List Int} {W W':World} (h:LayI w r b9 g m xs W) (hb:Below W.heap.size W W'):LayI w r b9 g m xs W':=by
 obtain ⟨h1,h2,h3,h4,h5,h6,h7,h8⟩:=h
 exact ⟨h1.keep hb,keepq hb h2,keepq hb h3,keepq hb h4,owns_keep h5 (fun k _ hl=>hb.block k hl),keep_trans h6 hb,h7,h8⟩
theorem LayI.cell {w:World} {r:Rul} {b9 g m:Nat} {xs:List Int} {W:World} (h:LayI w r b9 g m xs W) {i:Nat} (hi:i<m):W.cell? ⟨g,i,none⟩=some (.int .i64 (xs[i]?.getD 0))∧W.frozen? ⟨g,i,none⟩=false∧g<W.heap.size:=by
 obtain ⟨g2,cap,x,hv,hx,hc,hf,hl,_⟩:=owns_free h.2.2.2.2.1 i hi
 simp only[Value.slice.injEq,Option.some.injEq,Addr.mk.injEq,and_true,true_and] at hv
 obtain ⟨rfl,_⟩:=hv
 rw[List.getElem?_map] at hx
 cases hxs:xs[i]? with
 | none=>rw[hxs] at hx;cases hx
 | some y=>rw[hxs] at hx;cases hx;exact ⟨hc,hf,hl⟩
theorem lay_c (r:Rul) (w:World) (h:r.ok) (hno:NoMeetR r) :
  Calls Try.prog 20 #[r.val] w fun e w'=>∃a c,e = .returned (.tuple #[.agg #[.int .i64 (r.n:Int),.int .i64 (r.n:Int),.slice a (layTo r (r.n*r.n)).length c],.agg #[.int .i64 0,.int .i64 0],.bool true]) ∧
   w'.ownsRow w.heap.size 3 1 (.slice a (layTo r (r.n*r.n)).length c) (layTo r (r.n*r.n)).length ((layTo r (r.n*r.n)).map (Value.int .i64))∧Below w.heap.size w w':=by
 obtain ⟨m,hm⟩:∃m,m=r.n*r.n:=⟨_,rfl⟩
 have HE:=Lib.hid (fun W=>uempty_c r.n m hm h.n2 W)
 have hmb:m≤256:=by rw[hm];exact Nat.mul_le_mul h.n2 h.n2
 have hmm:Hid ((r.n:Int)*(r.n:Int)=(m:Int)):=by show (r.n:Int)*(r.n:Int)=(m:Int);rw[hm,Int.natCast_mul]
 have HC:=Lib.hid (fun k W (hk:k<m)=>rcell_c r k W h (by rw[← hm];exact hk))
 have HCL:=Lib.hid (fun k=>(show r.cell k<m by rw[hm];exact Rul.cell_lt h k))
 have HNO:=Lib.hid (fun k (hk:k<m)=>hno k (by rw[← hm];exact hk))
 have HLEN:Hid ((layTo r m).length=m):=by show (layTo r m).length=m;rw[layTo_len,← hm]
 have HL0:Hid (layTo r 0=List.replicate m 0):=by show layTo r 0=List.replicate m 0;rw[hm];rfl
 have hn1:=h.n1
 have hn2:=h.n2
 rw[← hm]
 clear h hno hm
 have HV:Hid (r.val = .agg #[.int .i64 (r.n:Int),.int .i64 (r.s0:Int),.int .i64 (r.s1:Int),.int .i64 (r.x0:Int),.int .i64 (r.x1:Int),.int .i64 (r.y0:Int),.int .i64 (r.y1:Int)]):=rfl
 rw[HV.out] at HC ⊢
 go_enter Try.func20,Try.ntmps20
 go_upto_region 1 with fail
 have fsz:(((w.alloc (.cells #[.int .i64 (r.n:Int),.int .i64 (r.s0:Int),.int .i64 (r.s1:Int),.int .i64 (r.x0:Int),.int .i64 (r.x1:Int),.int .i64 (r.y0:Int),.int .i64 (r.y1:Int)] 53)).alloc (.cells #[.int .i64 0,.int .i64 0,.slice none 0 0] 31)).alloc (.cells #[.int .i64 0,.int .i64 0] 22)).heap.size=w.heap.size+3:=by simp only[World.size_alloc] <;> omega
 have fB:Below w.heap.size w (((w.alloc (.cells #[.int .i64 (r.n:Int),.int .i64 (r.s0:Int),.int .i64 (r.s1:Int),.int .i64 (r.x0:Int),.int .i64 (r.x1:Int),.int .i64 (r.y0:Int),.int .i64 (r.y1:Int)] 53)).alloc (.cells #[.int .i64 0,.int .i64 0,.slice none 0 0] 31)).alloc (.cells #[.int .i64 0,.int .i64 0] 22)):=(((Below.refl _ _).alloc (Nat.le_refl _) _).alloc (by simp only[World.size_alloc];omega) _).alloc (by simp only[World.size_alloc];omega) _
 have fq0:(((w.alloc (.cells #[.int .i64 (r.n:Int),.int .i64 (r.s0:Int),.int .i64 (r.s1:Int),.int .i64 (r.x0:Int),.int .i64 (r.x1:Int),.int .i64 (r.y0:Int),.int .i64 (r.y1:Int)] 53)).alloc (.cells #[.int .i64 0,.int .i64 0,.slice none 0 0] 31)).alloc (.cells #[.int .i64 0,.int .i64 0] 22)).heap[w.heap.size]?=some (.cells #[.int .i64 (r.n:Int),.int .i64 (r.s0:Int),.int .i64 (r.s1:Int),.int .i64 (r.x0:Int),.int .i64 (r.x1:Int),.int .i64 (r.y0:Int),.int .i64 (r.y1:Int)] 53 (0,0)):=by have h:=World.alloc_heap_new w (.cells #[.int .i64 (r.n:Int),.int .i64 (r.s0:Int),.int .i64 (r.s1:Int),.int .i64 (r.x0:Int),.int .i64 (r.x1:Int),.int .i64 (r.y0:Int),.int .i64 (r.y1:Int)] 53);exact (Below.heap_alloc _ _ _ (by simp only[World.size_alloc];omega)).trans ((Below.heap_alloc _ _ _ (by simp only[World.size_alloc];omega)).trans (h))
 have fq1:(((w.alloc (.cells #[.int .i64 (r.n:Int),.int .i64 (r.s0:Int),.int .i64 (r.s1:Int),.int .i64 (r.x0:Int),.int .i64 (r.x1:Int),.int .i64 (r.y0:Int),.int .i64 (r.y1:Int)] 53)).alloc (.cells #[.int .i64 0,.int .i64 0,.slice none 0 0] 31)).alloc (.cells #[.int .i64 0,.int .i64 0] 22)).heap[w.heap.size+1]?=some (.cells #[.int .i64 0,.int .i64 0,.slice none 0 0] 31 (0,0)):=by have h:=World.alloc_heap_new (w.alloc (.cells #[.int .i64 (r.n:Int),.int .i64 (r.s0:Int),.int .i64 (r.s1:Int),.int .i64 (r.x0:Int),.int .i64 (r.x1:Int),.int .i64 (r.y0:Int),.int .i64 (r.y1:Int)] 53)) (.cells #[.int .i64 0,.int .i64 0,.slice none 0 0] 31);simp only[World.size_alloc] at h;exact (Below.heap_alloc _ _ _ (by simp only[World.size_alloc];omega)).trans (h)
 have fq2:(((w.alloc (.cells #[.int .i64 (r.n:Int),.int .i64 (r.s0:Int),.int .i64 (r.s1:Int),.int .i64 (r.x0:Int),.int .i64 (r.x1:Int),.int .i64 (r.y0:Int),.int .i64 (r.y1:Int)] 53)).alloc (.cells #[.int .i64 0,.int .i64 0,.slice none 0 0] 31)).alloc (.cells #[.int .i64 0,.int .i64 0] 22)).heap[w.heap.size+1+1]?=some (.cells #[.int .i64 0,.int .i64 0] 22 (0,0)):=by have h:=World.alloc_heap_new ((w.alloc (.cells #[.int .i64 (r.n:Int),.int .i64 (r.s0:Int),.int .i64 (r.s1:Int),.int .i64 (r.x0:Int),.int .i64 (r.x1:Int),.int .i64 (r.y0:Int),.int .i64 (r.y1:Int)] 53)).alloc (.cells #[.int .i64 0,.int .i64 0,.slice none 0 0] 31)) (.cells #[.int .i64 0,.int .i64 0] 22);simp only[World.size_alloc] at h;exact h
 generalize (((w.alloc (.cells #[.int .i64 (r.n:Int),.int .i64 (r.s0:Int),.int .i64 (r.s1:Int),.int .i64 (r.x0:Int),.int .i64 (r.x1:Int),.int .i64 (r.y0:Int),.int .i64 (r.y1:Int)] 53)).alloc (.cells #[.int .i64 0,.int .i64 0,.slice none 0 0] 31)).alloc (.cells #[.int .i64 0,.int .i64 0] 22))=W0 at fsz fB fq0 fq1 fq2 ⊢
 have Q0:=Lib.hid fq0
 have Q1:=Lib.hid fq1
 have Q2:=Lib.hid fq2
 have hl2:=q_lt fq2
 obtain ⟨⟨r0,_,_,_,_,_,_,rl⟩,_⟩:=c7_of fq0
 clear fsz fq0 fq1 fq2
 go_upto_region 2 with (first|(go_at_call 41;refine (HE.out _).mono ?_;rintro _ w2 ⟨g,rfl,hown2,hb2⟩))
 have gsz:(w2.alloc (.cells #[.int .i64 (r.n:Int),.int .i64 (r.n:Int),.slice (some ⟨g,0,none⟩) m m] 31)).heap.size=w2.heap.size+1:=by simp only[World.size_alloc]
 have gB:Below w2.heap.size w2 (w2.alloc (.cells #[.int .i64 (r.n:Int),.int .i64 (r.n:Int),.slice (some ⟨g,0,none⟩) m m] 31)):=(Below.refl _ _).alloc (Nat.le_refl _) _
 have gq0:(w2.alloc (.cells #[.int .i64 (r.n:Int),.int .i64 (r.n:Int),.slice (some ⟨g,0,none⟩) m m] 31)).heap[w2.heap.size]?=some (.cells #[.int .i64 (r.n:Int),.int .i64 (r.n:Int),.slice (some ⟨g,0,none⟩) m m] 31 (0,0)):=by have h:=World.alloc_heap_new w2 (.cells #[.int .i64 (r.n:Int),.int .i64 (r.n:Int),.slice (some ⟨g,0,none⟩) m m] 31);exact h
 generalize (w2.alloc (.cells #[.int .i64 (r.n:Int),.int .i64 (r.n:Int),.slice (some ⟨g,0,none⟩) m m] 31))=W3 at gsz gB gq0 ⊢
 have hg1:=hown2.lt g rfl
 have hBB:=keep_trans hb2 gB
 have HST:Hid (LayI w r w2.heap.size g m (layTo r 0) W3):=⟨keepq hBB Q0.out,keepq hBB Q1.out,keepq hBB Q2.out,gq0,by rw[HL0.out];exact owns_base (owns_keep hown2 (fun k _ hl=>gB.block k hl)) (by omega),keep_trans fB hBB,by omega,hg1.2⟩
 generalize w2.heap.size=b9 at HST ⊢
 clear gq0 hBB hb2 gB hown2 hg1 gsz rl r0 hl2 Q0 Q1 Q2 fB
 go_wp2_with fail
 go_loopw [6,7] (fun iv _ wr=>∃k:Nat,k≤m∧iv = .int .i64 ((k+1:Nat):Int)∧Hid (LayI w r b9 g m (layTo r k) wr)) (fun iv _ _=>m+1 - (intOf iv).toNat)
 case atStart=>exact ⟨0,by omega,rfl,HST⟩
 case round =>
  obtain ⟨k,hk,rfl,hI⟩:=hrel
  clear HST
  have hmm:=hmm.out
  obtain ⟨⟨r0,r1,r2,r3,r4,r5,r6,rl⟩,_⟩:=c7_of hI.out.1
  obtain ⟨x0,x1,x2,xl⟩:=c3_of hI.out.2.2.2.1
  by_cases hlt:k<m
  ·have hcl:=HCL.out k
   have HCk:=Lib.hid (fun W=>HC.out k W hlt)
   have HSET:Hid ((layTo r k).set (r.cell k) ((k:Int)+1)=layTo r (k+1)):=rfl
   have HZ:=Lib.hid (HNO.out k hlt)
   generalize r.cell k=e at hcl HCk HSET HZ
   have hci:(e:Int)<(m:Int):=by omega
   go_wp2_with (first|(go_at_call 42;refine (HCk.out _).mono ?_;rintro _ w1 ⟨rfl,hb1⟩;have hI1:Hid (LayI w r b9 g m (layTo r k) w1):=hI.out.below hb1;obtain ⟨cg0,cg1,cg2⟩:=hI1.out.cell hcl;rw[HZ.out] at cg0;clear x0 x1 x2 xl;obtain ⟨x0,x1,x2,xl⟩:=c3_of hI1.out.2.2.2.1)|fail)
   have HN:=Lib.hid (hI1.out.set e ((k:Int)+1))
   rw[HSET.out] at HN
   exact ⟨⟨k+1,by omega,by go_num,HN⟩,by simp[intOf];omega⟩
  ·have e:k=m:=by omega
   subst e
   obtain ⟨_,p1,p2,p9,hown,hbr,h7,h8⟩:=hI.out
   obtain ⟨y0,y1,y2,yl⟩:=c3_of p1
   obtain ⟨yf0,yf1,yf2⟩:=f3_of p1
   have a0:=q_cell p2 0
   have a1:=q_cell p2 1
   have af0:=q_free p2 0
   have af1:=q_free p2 1
   have al:=q_lt p2
   have P1:=Lib.hid p1
   have P2:=Lib.hid p2
   have HO:=Lib.hid hown
   have n1:w.heap.size+1≠w.heap.size+1+1:=by omega
   clear p1 p2 p9 hown hI
   go_wp2_with fail
   have g3:=st3_q (x0 := .int .i64 (r.n:Int)) (x1 := .int .i64 (r.n:Int)) (x2 := .slice (some ⟨g,0,none⟩) k k) P1.out
   have p3:=q_other (i:=2) (q_other (i:=1) (q_other (i:=0) P2.out n1.symm (.int .i64 (r.n:Int))) n1.symm (.int .i64 (r.n:Int))) n1.symm (.slice (some ⟨g,0,none⟩) k k)
   have g4:=q_other (i:=1) (q_other (i:=0) g3 n1 (.int .i64 0)) n1 (.int .i64 0)
   have p4:=q_set (i:=1) (q_set (i:=0) p3 (.int .i64 0)) (.int .i64 0)
   have hown3:=st3_own (x0 := .int .i64 (r.n:Int)) (x1 := .int .i64 (r.n:Int)) (x2 := .slice (some ⟨g,0,none⟩) k k) HO.out (b:=w.heap.size+1) (fun e=>by have h1:=(HO.out.lt _ e).1;omega)
   have hne:(Value.slice (some ⟨g,0,none⟩) k k).ownBlock≠some (w.heap.size+1+1):=fun e=>by have h1:=(HO.out.lt _ e).1;omega
   have hown4:=ownsRow_setCell_other (ownsRow_setCell_other hown3 (a:=⟨w.heap.size+1+1,0,none⟩) hne (.int .i64 0)) (a:=⟨w.heap.size+1+1,1,none⟩) hne (.int .i64 0)
   have hb3:=st3_below (x0 := .int .i64 (r.n:Int)) (x1 := .int .i64 (r.n:Int)) (x2 := .slice (some ⟨g,0,none⟩) k k) (b:=w.heap.size+1) hbr (by omega)
   have hl:w.heap.size≤w.heap.size+1+1:=by omega
   have hb4:=(hb3.setCell (p:=⟨w.heap.size+1+1,0,none⟩) hl (.int .i64 0)).setCell (p:=⟨w.heap.size+1+1,1,none⟩) hl (.int .i64 0)
   obtain ⟨z0,z1,z2,zl⟩:=c3_of g4
   have s0:=q_cell p4 0
   have s1:=q_cell p4 1
   refine bodyPost_ret (v := .tuple #[.agg #[.int .i64 (r.n:Int),.int .i64 (r.n:Int),.slice (some ⟨g,0,none⟩) k k],.agg #[.int .i64 0,.int .i64 0],.bool true]) ?_ rfl ⟨_,_,by rw[HLEN.out],by rw[HLEN.out];exact owns_base hown4 (by omega),hb4⟩
   simp[results,Try.f20,go_sem,z0,z1,z2,s0,s1]
end
end Go.Proofs.Ytpkghjoippcjeaa
