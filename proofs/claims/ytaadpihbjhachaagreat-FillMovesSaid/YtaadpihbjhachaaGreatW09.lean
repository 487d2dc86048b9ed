/- Texts D4 to D5 of this proof, in one file. -/
import Derived.Test.YtaadpihbjhachaaGreatW03
import Derived.Test.YtaadpihbjhachaaGreatW07
import Derived.Lib.BitFns
import Derived.Lib.Strings
import Derived.Lib.Small
namespace Go.Proofs.YtaadpihbjhachaaGreat
set_option maxRecDepth 100000
set_option maxHeartbeats 16000000
section
open Go Go.RowKit
attribute [local go_sem] zv
attribute [local go_sem] Oper.semAt_some
def setV (M:Nat):Value := .agg #[.int .u64 ((ze M 0:Nat):Int),.int .u64 ((ze M 1:Nat):Int),.int .u64 ((ze M 2:Nat):Int),.int .u64 ((ze M 3:Nat):Int)]
theorem word_high (v i:Nat) (hv:v<18446744073709551616) (hi:¬i<64):v.testBit i=false :=
 Nat.testBit_lt_two_pow (Nat.lt_of_lt_of_le hv (by rw[show (18446744073709551616:Nat)=2 ^ 64 from by decide];exact Nat.pow_le_pow_right (by decide) (by omega)))
theorem word_and (A B q:Nat):ze (A &&& B) q=ze A q &&& ze B q:=by
 apply Nat.eq_of_testBit_eq
 intro i
 by_cases hi:i<64
 ·rw[jf _ _ _ hi,Nat.testBit_and,Nat.testBit_and,jf _ _ _ hi,jf _ _ _ hi]
 ·rw[word_high _ _ (jp _ _) hi,Nat.testBit_and,word_high _ _ (jp _ _) hi,Bool.false_and]
theorem word_join (A B q:Nat):ze (A ||| B) q=ze A q ||| ze B q:=by
 apply Nat.eq_of_testBit_eq
 intro i
 by_cases hi:i<64
 ·rw[jf _ _ _ hi,Nat.testBit_or,Nat.testBit_or,jf _ _ _ hi,jf _ _ _ hi]
 ·rw[word_high _ _ (jp _ _) hi,Nat.testBit_or,word_high _ _ (jp _ _) hi,word_high _ _ (jp _ _) hi,Bool.false_or]
def minus (A B:Nat):Nat:=A ^^^ (A &&& B)
theorem testBit_minus (A B i:Nat):(minus A B).testBit i=(A.testBit i&&!B.testBit i):=by
 unfold minus
 rw[Nat.testBit_xor,Nat.testBit_and]
 cases A.testBit i <;> cases B.testBit i <;> rfl
theorem word_minus (A B q:Nat):ze (minus A B) q=ze A q &&& (18446744073709551615 - ze B q):=by
 apply Nat.eq_of_testBit_eq
 intro i
 have e64:(2:Nat) ^ 64=18446744073709551616:=by decide
 by_cases hi:i<64
 ·rw[jf _ _ _ hi,testBit_minus,Nat.testBit_and,jf _ _ _ hi]
  rw[show 18446744073709551615 - ze B q=2 ^ 64 - (ze B q+1) from by omega,Nat.testBit_two_pow_sub_succ (by rw[e64];exact jp _ _),jf _ _ _ hi]
  simp[hi]
 ·rw[word_high _ _ (jp _ _) hi,Nat.testBit_and,word_high _ _ (jp _ _) hi,Bool.false_and]
theorem and1_c (x y:Nat) (w:World) (hx:x<18446744073709551616) (hy:y<18446744073709551616):Calls Tryz.prog 244 #[.int .u64 (x:Int),.int .u64 (y:Int)] w fun e w'=>e = .returned (.int .u64 ((x &&& y:Nat):Int))∧w=w':=by
 have hE:Hid (bits BinOp.and IntKind.u64 (x:Int) (y:Int)=((x &&& y:Nat):Int)):=u64_and_nat _ _ hx hy
 clear hx hy
 go_enter Tryz.func244,Tryz.ntmps244
 go_wp2
 go_ret
 exact ⟨by rw[← hE.out];rfl,rfl⟩
theorem andj_c (A B:Nat) (w:World):Calls Tryz.prog 242 #[setV A,setV B,.func (Fn.func 244) #[] #[]] w fun e w'=>e = .returned (setV (A &&& B))∧Below w.heap.size w w':=by
 have HW:=za (fun q=>word_and A B q)
 have HAl:=za (fun q=>jp A q)
 have HBl:=za (fun q=>jp B q)
 unfold setV
 generalize hF:A &&& B=F at HW ⊢
 clear hF
 go_enter Tryz.func242,Tryz.ntmps242
 go_wp2_with fail
 have fsz:(((w.alloc (.cells #[.int .u64 ((ze A 0:Nat):Int),.int .u64 ((ze A 1:Nat):Int),.int .u64 ((ze A 2:Nat):Int),.int .u64 ((ze A 3:Nat):Int)] 148)).alloc (.cells #[.int .u64 ((ze B 0:Nat):Int),.int .u64 ((ze B 1:Nat):Int),.int .u64 ((ze B 2:Nat):Int),.int .u64 ((ze B 3:Nat):Int)] 148)).alloc (.cells #[.int .u64 0,.int .u64 0,.int .u64 0,.int .u64 0] 148)).heap.size=w.heap.size+3:=by simp only[World.size_alloc] <;> omega
 have fB:Below w.heap.size w (((w.alloc (.cells #[.int .u64 ((ze A 0:Nat):Int),.int .u64 ((ze A 1:Nat):Int),.int .u64 ((ze A 2:Nat):Int),.int .u64 ((ze A 3:Nat):Int)] 148)).alloc (.cells #[.int .u64 ((ze B 0:Nat):Int),.int .u64 ((ze B 1:Nat):Int),.int .u64 ((ze B 2:Nat):Int),.int .u64 ((ze B 3:Nat):Int)] 148)).alloc (.cells #[.int .u64 0,.int .u64 0,.int .u64 0,.int .u64 0] 148)):=(((Below.refl _ _).alloc (Nat.le_refl _) _).alloc (by simp only[World.size_alloc];omega) _).alloc (by simp only[World.size_alloc];omega) _
 have fq0:(((w.alloc (.cells #[.int .u64 ((ze A 0:Nat):Int),.int .u64 ((ze A 1:Nat):Int),.int .u64 ((ze A 2:Nat):Int),.int .u64 ((ze A 3:Nat):Int)] 148)).alloc (.cells #[.int .u64 ((ze B 0:Nat):Int),.int .u64 ((ze B 1:Nat):Int),.int .u64 ((ze B 2:Nat):Int),.int .u64 ((ze B 3:Nat):Int)] 148)).alloc (.cells #[.int .u64 0,.int .u64 0,.int .u64 0,.int .u64 0] 148)).heap[w.heap.size]?=some (.cells #[.int .u64 ((ze A 0:Nat):Int),.int .u64 ((ze A 1:Nat):Int),.int .u64 ((ze A 2:Nat):Int),.int .u64 ((ze A 3:Nat):Int)] 148 (0,0)):=by have h:=World.alloc_heap_new w (.cells #[.int .u64 ((ze A 0:Nat):Int),.int .u64 ((ze A 1:Nat):Int),.int .u64 ((ze A 2:Nat):Int),.int .u64 ((ze A 3:Nat):Int)] 148);exact (Below.heap_alloc _ _ _ (by simp only[World.size_alloc];omega)).trans ((Below.heap_alloc _ _ _ (by simp only[World.size_alloc];omega)).trans (h))
 have fq1:(((w.alloc (.cells #[.int .u64 ((ze A 0:Nat):Int),.int .u64 ((ze A 1:Nat):Int),.int .u64 ((ze A 2:Nat):Int),.int .u64 ((ze A 3:Nat):Int)] 148)).alloc (.cells #[.int .u64 ((ze B 0:Nat):Int),.int .u64 ((ze B 1:Nat):Int),.int .u64 ((ze B 2:Nat):Int),.int .u64 ((ze B 3:Nat):Int)] 148)).alloc (.cells #[.int .u64 0,.int .u64 0,.int .u64 0,.int .u64 0] 148)).heap[w.heap.size+1]?=some (.cells #[.int .u64 ((ze B 0:Nat):Int),.int .u64 ((ze B 1:Nat):Int),.int .u64 ((ze B 2:Nat):Int),.int .u64 ((ze B 3:Nat):Int)] 148 (0,0)):=by have h:=World.alloc_heap_new (w.alloc (.cells #[.int .u64 ((ze A 0:Nat):Int),.int .u64 ((ze A 1:Nat):Int),.int .u64 ((ze A 2:Nat):Int),.int .u64 ((ze A 3:Nat):Int)] 148)) (.cells #[.int .u64 ((ze B 0:Nat):Int),.int .u64 ((ze B 1:Nat):Int),.int .u64 ((ze B 2:Nat):Int),.int .u64 ((ze B 3:Nat):Int)] 148);simp only[World.size_alloc] at h;exact (Below.heap_alloc _ _ _ (by simp only[World.size_alloc];omega)).trans (h)
 have fq2:(((w.alloc (.cells #[.int .u64 ((ze A 0:Nat):Int),.int .u64 ((ze A 1:Nat):Int),.int .u64 ((ze A 2:Nat):Int),.int .u64 ((ze A 3:Nat):Int)] 148)).alloc (.cells #[.int .u64 ((ze B 0:Nat):Int),.int .u64 ((ze B 1:Nat):Int),.int .u64 ((ze B 2:Nat):Int),.int .u64 ((ze B 3:Nat):Int)] 148)).alloc (.cells #[.int .u64 0,.int .u64 0,.int .u64 0,.int .u64 0] 148)).heap[w.heap.size+1+1]?=some (.cells #[.int .u64 0,.int .u64 0,.int .u64 0,.int .u64 0] 148 (0,0)):=by have h:=World.alloc_heap_new ((w.alloc (.cells #[.int .u64 ((ze A 0:Nat):Int),.int .u64 ((ze A 1:Nat):Int),.int .u64 ((ze A 2:Nat):Int),.int .u64 ((ze A 3:Nat):Int)] 148)).alloc (.cells #[.int .u64 ((ze B 0:Nat):Int),.int .u64 ((ze B 1:Nat):Int),.int .u64 ((ze B 2:Nat):Int),.int .u64 ((ze B 3:Nat):Int)] 148)) (.cells #[.int .u64 0,.int .u64 0,.int .u64 0,.int .u64 0] 148);simp only[World.size_alloc] at h;exact h
 generalize (((w.alloc (.cells #[.int .u64 ((ze A 0:Nat):Int),.int .u64 ((ze A 1:Nat):Int),.int .u64 ((ze A 2:Nat):Int),.int .u64 ((ze A 3:Nat):Int)] 148)).alloc (.cells #[.int .u64 ((ze B 0:Nat):Int),.int .u64 ((ze B 1:Nat):Int),.int .u64 ((ze B 2:Nat):Int),.int .u64 ((ze B 3:Nat):Int)] 148)).alloc (.cells #[.int .u64 0,.int .u64 0,.int .u64 0,.int .u64 0] 148))=W0 at fsz fB fq0 fq1 fq2 ⊢
 have HSZ:=za fsz
 have fsz':w.heap.size+2<W0.heap.size:=by omega
 clear fsz
 go_loopw [7,8] (fun _ i wr=>∃(k:Nat) (vs:Array Value),k≤4∧i = .int .i64 k∧wr.heap[w.heap.size]?=some (.cells vs 148 (0,0))∧Hid (vs.size=4∧∀q,q<4→vs[q]?=some (.int .u64 ((ze (if q<k then F else A) q:Nat):Int))) ∧
  wr.heap[w.heap.size+1]?=some (.cells #[.int .u64 ((ze B 0:Nat):Int),.int .u64 ((ze B 1:Nat):Int),.int .u64 ((ze B 2:Nat):Int),.int .u64 ((ze B 3:Nat):Int)] 148 (0,0))∧wr.heap[w.heap.size+1+1]?=some (.cells #[.int .u64 0,.int .u64 0,.int .u64 0,.int .u64 0] 148 (0,0))∧Below w.heap.size w wr) (fun _ i _=>4 - (intOf i).toNat)
 case atStart=>exact ⟨0,_,by omega,rfl,fq0,⟨rfl,fun q hq=>by match q,hq with|0,_=>rfl|1,_=>rfl|2,_=>rfl|3,_=>rfl⟩,fq1,fq2,fB⟩
 case round =>
  obtain ⟨k,vs,hk,rfl,hq0,hvs,hq1,hq2,hbr⟩:=hrel
  have l0:=zy hq0
  have l1:=zy hq1
  have l2:=zy hq2
  by_cases hlt:k<4
  ·have cA:=(zc hq0 k).trans (hvs.out.2 k hlt)
   rw[if_neg (Nat.lt_irrefl k)] at cA
   have fA:=zo hq0 k
   have cB:wr.cell? ⟨w.heap.size+1,k,none⟩=some (.int .u64 ((ze B k:Nat):Int)):=(zc hq1 k).trans (by match k,hlt with|0,_=>rfl|1,_=>rfl|2,_=>rfl|3,_=>rfl)
   have H1:=za (fun W=>and1_c (ze A k) (ze B k) W (HAl.out k) (HBl.out k))
   have HQ0:=za hq0
   have HQ1:=za hq1
   have HQ2:=za hq2
   have hWk:Hid (ze A k &&& ze B k=ze F k):=(HW.out k).symm
   generalize ze A k=x at cA H1 hWk
   generalize ze B k=y at cB H1 hWk
   clear hq0 hq1 hq2
   go_wp2
   refine zk (fun w'=>∃u,w'=over (wr) u) [10] [(0,0),(0,1),(0,2),(0,3),(0,4),(0,5),(0,6),(0,7),(1,8),(0,9),(2,10)] (by kernel_rfl) (by kernel_rfl) (by exact ⟨_,zi (by repeat (first|assumption|exact Below.refl _ _|refine zd ?_|refine zg ?_ _|refine zb ?_ (by assumption)))⟩) ?_
   dsimp only[zt,zG]
   repeat (first|(refine zu rfl (fun K hK=>?_);go_big_quiet_op;refine hK _ ?_;clear hK K)|(refine zp rfl rfl (fun K hK=>?_);go_big_quiet_op;refine hK _ ?_;clear hK K)|(refine zE ?_;go_wp2_with (go_at_call 244;refine (H1.out _).mono ?_;rintro _ w1 ⟨rfl,rfl⟩);refine ⟨?_,?_⟩;focus (exact ⟨_,zi (by repeat (first|assumption|exact Below.refl _ _|refine zd ?_|refine zg ?_ _|refine zb ?_ (by assumption)))⟩)))
   refine zA _ _ _ rfl ?_
   dsimp only[List.map]
   go_wp2_with (go_at_call 244;refine (H1.out _).mono ?_;rintro _ w1 ⟨rfl,rfl⟩)
   refine NoPanic.normal ?_
   go_wp2
   go_roundw
   case rel =>
    refine ⟨k+1,vs.setIfInBounds k (.int .u64 ((x &&& y:Nat):Int)),by omega,by go_num,zC (i:=k) (W:=wr.drew) HQ0.out _,⟨by rw[Array.size_setIfInBounds];exact hvs.out.1,fun q hq=>?_⟩,zU (W:=wr.drew) HQ1.out (by omega) _,zU (W:=wr.drew) HQ2.out (by omega) _,hbr.drew.setCell (by show w.heap.size≤w.heap.size;exact Nat.le_refl _) _⟩
    have hs:=hvs.out.1
    by_cases e:q=k
    ·subst e
     rw[Array.getElem?_setIfInBounds_self_of_lt (by omega),if_pos (by omega),hWk.out]
    ·rw[Array.getElem?_setIfInBounds_ne (Ne.symm e),hvs.out.2 q hq]
     by_cases e2:q<k
     ·rw[if_pos e2,if_pos (by omega)]
     ·rw[if_neg e2,if_neg (by omega)]
   case measure=>simp[intOf];omega
  ·have e:k=4:=by omega
   subst e
   have c0:=(zc hq0 0).trans (hvs.out.2 0 (by decide))
   have c1:=(zc hq0 1).trans (hvs.out.2 1 (by decide))
   have c2:=(zc hq0 2).trans (hvs.out.2 2 (by decide))
   have c3:=(zc hq0 3).trans (hvs.out.2 3 (by decide))
   rw[if_pos (by decide)] at c0 c1 c2 c3
   have d0:=zo hq2 0
   have d1:=zo hq2 1
   have d2:=zo hq2 2
   have d3:=zo hq2 3
   have z0:=zc hq2 0
   have z1:=zc hq2 1
   have z2:=zc hq2 2
   have z3:=zc hq2 3
   have HQ2:=za hq2
   clear hq0 hq1 hq2
   go_wp2
   have r:=zC (i:=3) (zC (i:=2) (zC (i:=1) (zC (i:=0) HQ2.out (.int .u64 ((ze F 0:Nat):Int))) (.int .u64 ((ze F 1:Nat):Int))) (.int .u64 ((ze F 2:Nat):Int))) (.int .u64 ((ze F 3:Nat):Int))
   have r0:=zc r 0
   have r1:=zc r 1
   have r2:=zc r 2
   have r3:=zc r 3
   have hle:w.heap.size≤w.heap.size+1+1:=by omega
   refine bodyPost_ret (v := .agg #[.int .u64 ((ze F 0:Nat):Int),.int .u64 ((ze F 1:Nat):Int),.int .u64 ((ze F 2:Nat):Int),.int .u64 ((ze F 3:Nat):Int)]) ?_ rfl ⟨rfl,(((hbr.setCell (p:=⟨w.heap.size+1+1,0,none⟩) hle _).setCell (p:=⟨w.heap.size+1+1,1,none⟩) hle _).setCell (p:=⟨w.heap.size+1+1,2,none⟩) hle _).setCell (p:=⟨w.heap.size+1+1,3,none⟩) hle _⟩
   simp[results,Tryz.f242,go_sem,r0,r1,r2,r3]
theorem and_c (A B:Nat) (w:World):Calls Tryz.prog 220 #[setV A,setV B] w fun e w'=>e = .returned (setV (A &&& B))∧Below w.heap.size w w':=by
 have HJ:=za (fun W=>andj_c A B W)
 unfold setV at HJ ⊢
 generalize hF:A &&& B=F at HJ ⊢
 clear hF
 go_enter Tryz.func220,Tryz.ntmps220
 go_wp2_with fail
 have fsz:(((w.alloc (.cells #[.int .u64 ((ze A 0:Nat):Int),.int .u64 ((ze A 1:Nat):Int),.int .u64 ((ze A 2:Nat):Int),.int .u64 ((ze A 3:Nat):Int)] 148)).alloc (.cells #[.int .u64 ((ze B 0:Nat):Int),.int .u64 ((ze B 1:Nat):Int),.int .u64 ((ze B 2:Nat):Int),.int .u64 ((ze B 3:Nat):Int)] 148)).alloc (.cells #[.int .u64 0,.int .u64 0,.int .u64 0,.int .u64 0] 148)).heap.size=w.heap.size+3:=by simp only[World.size_alloc] <;> omega
 have fB:Below w.heap.size w (((w.alloc (.cells #[.int .u64 ((ze A 0:Nat):Int),.int .u64 ((ze A 1:Nat):Int),.int .u64 ((ze A 2:Nat):Int),.int .u64 ((ze A 3:Nat):Int)] 148)).alloc (.cells #[.int .u64 ((ze B 0:Nat):Int),.int .u64 ((ze B 1:Nat):Int),.int .u64 ((ze B 2:Nat):Int),.int .u64 ((ze B 3:Nat):Int)] 148)).alloc (.cells #[.int .u64 0,.int .u64 0,.int .u64 0,.int .u64 0] 148)):=(((Below.refl _ _).alloc (Nat.le_refl _) _).alloc (by simp only[World.size_alloc];omega) _).alloc (by simp only[World.size_alloc];omega) _
 have fq0:(((w.alloc (.cells #[.int .u64 ((ze A 0:Nat):Int),.int .u64 ((ze A 1:Nat):Int),.int .u64 ((ze A 2:Nat):Int),.int .u64 ((ze A 3:Nat):Int)] 148)).alloc (.cells #[.int .u64 ((ze B 0:Nat):Int),.int .u64 ((ze B 1:Nat):Int),.int .u64 ((ze B 2:Nat):Int),.int .u64 ((ze B 3:Nat):Int)] 148)).alloc (.cells #[.int .u64 0,.int .u64 0,.int .u64 0,.int .u64 0] 148)).heap[w.heap.size]?=some (.cells #[.int .u64 ((ze A 0:Nat):Int),.int .u64 ((ze A 1:Nat):Int),.int .u64 ((ze A 2:Nat):Int),.int .u64 ((ze A 3:Nat):Int)] 148 (0,0)):=by have h:=World.alloc_heap_new w (.cells #[.int .u64 ((ze A 0:Nat):Int),.int .u64 ((ze A 1:Nat):Int),.int .u64 ((ze A 2:Nat):Int),.int .u64 ((ze A 3:Nat):Int)] 148);exact (Below.heap_alloc _ _ _ (by simp only[World.size_alloc];omega)).trans ((Below.heap_alloc _ _ _ (by simp only[World.size_alloc];omega)).trans (h))
 have fq1:(((w.alloc (.cells #[.int .u64 ((ze A 0:Nat):Int),.int .u64 ((ze A 1:Nat):Int),.int .u64 ((ze A 2:Nat):Int),.int .u64 ((ze A 3:Nat):Int)] 148)).alloc (.cells #[.int .u64 ((ze B 0:Nat):Int),.int .u64 ((ze B 1:Nat):Int),.int .u64 ((ze B 2:Nat):Int),.int .u64 ((ze B 3:Nat):Int)] 148)).alloc (.cells #[.int .u64 0,.int .u64 0,.int .u64 0,.int .u64 0] 148)).heap[w.heap.size+1]?=some (.cells #[.int .u64 ((ze B 0:Nat):Int),.int .u64 ((ze B 1:Nat):Int),.int .u64 ((ze B 2:Nat):Int),.int .u64 ((ze B 3:Nat):Int)] 148 (0,0)):=by have h:=World.alloc_heap_new (w.alloc (.cells #[.int .u64 ((ze A 0:Nat):Int),.int .u64 ((ze A 1:Nat):Int),.int .u64 ((ze A 2:Nat):Int),.int .u64 ((ze A 3:Nat):Int)] 148)) (.cells #[.int .u64 ((ze B 0:Nat):Int),.int .u64 ((ze B 1:Nat):Int),.int .u64 ((ze B 2:Nat):Int),.int .u64 ((ze B 3:Nat):Int)] 148);simp only[World.size_alloc] at h;exact (Below.heap_alloc _ _ _ (by simp only[World.size_alloc];omega)).trans (h)
 have fq2:(((w.alloc (.cells #[.int .u64 ((ze A 0:Nat):Int),.int .u64 ((ze A 1:Nat):Int),.int .u64 ((ze A 2:Nat):Int),.int .u64 ((ze A 3:Nat):Int)] 148)).alloc (.cells #[.int .u64 ((ze B 0:Nat):Int),.int .u64 ((ze B 1:Nat):Int),.int .u64 ((ze B 2:Nat):Int),.int .u64 ((ze B 3:Nat):Int)] 148)).alloc (.cells #[.int .u64 0,.int .u64 0,.int .u64 0,.int .u64 0] 148)).heap[w.heap.size+1+1]?=some (.cells #[.int .u64 0,.int .u64 0,.int .u64 0,.int .u64 0] 148 (0,0)):=by have h:=World.alloc_heap_new ((w.alloc (.cells #[.int .u64 ((ze A 0:Nat):Int),.int .u64 ((ze A 1:Nat):Int),.int .u64 ((ze A 2:Nat):Int),.int .u64 ((ze A 3:Nat):Int)] 148)).alloc (.cells #[.int .u64 ((ze B 0:Nat):Int),.int .u64 ((ze B 1:Nat):Int),.int .u64 ((ze B 2:Nat):Int),.int .u64 ((ze B 3:Nat):Int)] 148)) (.cells #[.int .u64 0,.int .u64 0,.int .u64 0,.int .u64 0] 148);simp only[World.size_alloc] at h;exact h
 generalize (((w.alloc (.cells #[.int .u64 ((ze A 0:Nat):Int),.int .u64 ((ze A 1:Nat):Int),.int .u64 ((ze A 2:Nat):Int),.int .u64 ((ze A 3:Nat):Int)] 148)).alloc (.cells #[.int .u64 ((ze B 0:Nat):Int),.int .u64 ((ze B 1:Nat):Int),.int .u64 ((ze B 2:Nat):Int),.int .u64 ((ze B 3:Nat):Int)] 148)).alloc (.cells #[.int .u64 0,.int .u64 0,.int .u64 0,.int .u64 0] 148))=W0 at fsz fB fq0 fq1 fq2 ⊢
 have hsz0:w.heap.size≤W0.heap.size:=by omega
 clear fsz
 refine (HJ.out W0).mono ?_
 rintro _ w1 ⟨rfl,hb1⟩
 have hq2:=zm hb1 fq2
 have hbr:=fB.trans (hb1.mono hsz0)
 have d0:=zo hq2 0
 have d1:=zo hq2 1
 have d2:=zo hq2 2
 have d3:=zo hq2 3
 have z0:=zc hq2 0
 have z1:=zc hq2 1
 have z2:=zc hq2 2
 have z3:=zc hq2 3
 have l2:=zy hq2
 have HQ2:=za hq2
 clear hq2 fq0 fq1 fq2
 go_wp2
 have r:=zC (i:=3) (zC (i:=2) (zC (i:=1) (zC (i:=0) HQ2.out (.int .u64 ((ze F 0:Nat):Int))) (.int .u64 ((ze F 1:Nat):Int))) (.int .u64 ((ze F 2:Nat):Int))) (.int .u64 ((ze F 3:Nat):Int))
 have r0:=zc r 0
 have r1:=zc r 1
 have r2:=zc r 2
 have r3:=zc r 3
 have hle:w.heap.size≤w.heap.size+1+1:=by omega
 refine bodyPost_ret (v := .agg #[.int .u64 ((ze F 0:Nat):Int),.int .u64 ((ze F 1:Nat):Int),.int .u64 ((ze F 2:Nat):Int),.int .u64 ((ze F 3:Nat):Int)]) ?_ rfl ⟨rfl,(((hbr.setCell (p:=⟨w.heap.size+1+1,0,none⟩) hle _).setCell (p:=⟨w.heap.size+1+1,1,none⟩) hle _).setCell (p:=⟨w.heap.size+1+1,2,none⟩) hle _).setCell (p:=⟨w.heap.size+1+1,3,none⟩) hle _⟩
 simp[results,Tryz.f220,go_sem,r0,r1,r2,r3]
theorem or1_c (x y:Nat) (w:World) (hx:x<18446744073709551616) (hy:y<18446744073709551616):Calls Tryz.prog 243 #[.int .u64 (x:Int),.int .u64 (y:Int)] w fun e w'=>e = .returned (.int .u64 ((x ||| y:Nat):Int))∧w=w':=by
 have hE:Hid (bits BinOp.or IntKind.u64 (x:Int) (y:Int)=((x ||| y:Nat):Int)):=u64_or_nat _ _ hx hy
 clear hx hy
 go_enter Tryz.func243,Tryz.ntmps243
 go_wp2
 go_ret
 exact ⟨by rw[← hE.out];rfl,rfl⟩
theorem orj_c (A B:Nat) (w:World):Calls Tryz.prog 242 #[setV A,setV B,.func (Fn.func 243) #[] #[]] w fun e w'=>e = .returned (setV (A ||| B))∧Below w.heap.size w w':=by
 have HW:=za (fun q=>word_join A B q)
 have HAl:=za (fun q=>jp A q)
 have HBl:=za (fun q=>jp B q)
 unfold setV
 generalize hF:A ||| B=F at HW ⊢
 clear hF
 go_enter Tryz.func242,Tryz.ntmps242
 go_wp2_with fail
 have fsz:(((w.alloc (.cells #[.int .u64 ((ze A 0:Nat):Int),.int .u64 ((ze A 1:Nat):Int),.int .u64 ((ze A 2:Nat):Int),.int .u64 ((ze A 3:Nat):Int)] 148)).alloc (.cells #[.int .u64 ((ze B 0:Nat):Int),.int .u64 ((ze B 1:Nat):Int),.int .u64 ((ze B 2:Nat):Int),.int .u64 ((ze B 3:Nat):Int)] 148)).alloc (.cells #[.int .u64 0,.int .u64 0,.int .u64 0,.int .u64 0] 148)).heap.size=w.heap.size+3:=by simp only[World.size_alloc] <;> omega
 have fB:Below w.heap.size w (((w.alloc (.cells #[.int .u64 ((ze A 0:Nat):Int),.int .u64 ((ze A 1:Nat):Int),.int .u64 ((ze A 2:Nat):Int),.int .u64 ((ze A 3:Nat):Int)] 148)).alloc (.cells #[.int .u64 ((ze B 0:Nat):Int),.int .u64 ((ze B 1:Nat):Int),.int .u64 ((ze B 2:Nat):Int),.int .u64 ((ze B 3:Nat):Int)] 148)).alloc (.cells #[.int .u64 0,.int .u64 0,.int .u64 0,.int .u64 0] 148)):=(((Below.refl _ _).alloc (Nat.le_refl _) _).alloc (by simp only[World.size_alloc];omega) _).alloc (by simp only[World.size_alloc];omega) _
 have fq0:(((w.alloc (.cells #[.int .u64 ((ze A 0:Nat):Int),.int .u64 ((ze A 1:Nat):Int),.int .u64 ((ze A 2:Nat):Int),.int .u64 ((ze A 3:Nat):Int)] 148)).alloc (.cells #[.int .u64 ((ze B 0:Nat):Int),.int .u64 ((ze B 1:Nat):Int),.int .u64 ((ze B 2:Nat):Int),.int .u64 ((ze B 3:Nat):Int)] 148)).alloc (.cells #[.int .u64 0,.int .u64 0,.int .u64 0,.int .u64 0] 148)).heap[w.heap.size]?=some (.cells #[.int .u64 ((ze A 0:Nat):Int),.int .u64 ((ze A 1:Nat):Int),.int .u64 ((ze A 2:Nat):Int),.int .u64 ((ze A 3:Nat):Int)] 148 (0,0)):=by have h:=World.alloc_heap_new w (.cells #[.int .u64 ((ze A 0:Nat):Int),.int .u64 ((ze A 1:Nat):Int),.int .u64 ((ze A 2:Nat):Int),.int .u64 ((ze A 3:Nat):Int)] 148);exact (Below.heap_alloc _ _ _ (by simp only[World.size_alloc];omega)).trans ((Below.heap_alloc _ _ _ (by simp only[World.size_alloc];omega)).trans (h))
 have fq1:(((w.alloc (.cells #[.int .u64 ((ze A 0:Nat):Int),.int .u64 ((ze A 1:Nat):Int),.int .u64 ((ze A 2:Nat):Int),.int .u64 ((ze A 3:Nat):Int)] 148)).alloc (.cells #[.int .u64 ((ze B 0:Nat):Int),.int .u64 ((ze B 1:Nat):Int),.int .u64 ((ze B 2:Nat):Int),.int .u64 ((ze B 3:Nat):Int)] 148)).alloc (.cells #[.int .u64 0,.int .u64 0,.int .u64 0,.int .u64 0] 148)).heap[w.heap.size+1]?=some (.cells #[.int .u64 ((ze B 0:Nat):Int),.int .u64 ((ze B 1:Nat):Int),.int .u64 ((ze B 2:Nat):Int),.int .u64 ((ze B 3:Nat):Int)] 148 (0,0)):=by have h:=World.alloc_heap_new (w.alloc (.cells #[.int .u64 ((ze A 0:Nat):Int),.int .u64 ((ze A 1:Nat):Int),.int .u64 ((ze A 2:Nat):Int),.int .u64 ((ze A 3:Nat):Int)] 148)) (.cells #[.int .u64 ((ze B 0:Nat):Int),.int .u64 ((ze B 1:Nat):Int),.int .u64 ((ze B 2:Nat):Int),.int .u64 ((ze B 3:Nat):Int)] 148);simp only[World.size_alloc] at h;exact (Below.heap_alloc _ _ _ (by simp only[World.size_alloc];omega)).trans (h)
 have fq2:(((w.alloc (.cells #[.int .u64 ((ze A 0:Nat):Int),.int .u64 ((ze A 1:Nat):Int),.int .u64 ((ze A 2:Nat):Int),.int .u64 ((ze A 3:Nat):Int)] 148)).alloc (.cells #[.int .u64 ((ze B 0:Nat):Int),.int .u64 ((ze B 1:Nat):Int),.int .u64 ((ze B 2:Nat):Int),.int .u64 ((ze B 3:Nat):Int)] 148)).alloc (.cells #[.int .u64 0,.int .u64 0,.int .u64 0,.int .u64 0] 148)).heap[w.heap.size+1+1]?=some (.cells #[.int .u64 0,.int .u64 0,.int .u64 0,.int .u64 0] 148 (0,0)):=by have h:=World.alloc_heap_new ((w.alloc (.cells #[.int .u64 ((ze A 0:Nat):Int),.int .u64 ((ze A 1:Nat):Int),.int .u64 ((ze A 2:Nat):Int),.int .u64 ((ze A 3:Nat):Int)] 148)).alloc (.cells #[.int .u64 ((ze B 0:Nat):Int),.int .u64 ((ze B 1:Nat):Int),.int .u64 ((ze B 2:Nat):Int),.int .u64 ((ze B 3:Nat):Int)] 148)) (.cells #[.int .u64 0,.int .u64 0,.int .u64 0,.int .u64 0] 148);simp only[World.size_alloc] at h;exact h
 generalize (((w.alloc (.cells #[.int .u64 ((ze A 0:Nat):Int),.int .u64 ((ze A 1:Nat):Int),.int .u64 ((ze A 2:Nat):Int),.int .u64 ((ze A 3:Nat):Int)] 148)).alloc (.cells #[.int .u64 ((ze B 0:Nat):Int),.int .u64 ((ze B 1:Nat):Int),.int .u64 ((ze B 2:Nat):Int),.int .u64 ((ze B 3:Nat):Int)] 148)).alloc (.cells #[.int .u64 0,.int .u64 0,.int .u64 0,.int .u64 0] 148))=W0 at fsz fB fq0 fq1 fq2 ⊢
 have HSZ:=za fsz
 have fsz':w.heap.size+2<W0.heap.size:=by omega
 clear fsz
 go_loopw [7,8] (fun _ i wr=>∃(k:Nat) (vs:Array Value),k≤4∧i = .int .i64 k∧wr.heap[w.heap.size]?=some (.cells vs 148 (0,0))∧Hid (vs.size=4∧∀q,q<4→vs[q]?=some (.int .u64 ((ze (if q<k then F else A) q:Nat):Int))) ∧
  wr.heap[w.heap.size+1]?=some (.cells #[.int .u64 ((ze B 0:Nat):Int),.int .u64 ((ze B 1:Nat):Int),.int .u64 ((ze B 2:Nat):Int),.int .u64 ((ze B 3:Nat):Int)] 148 (0,0))∧wr.heap[w.heap.size+1+1]?=some (.cells #[.int .u64 0,.int .u64 0,.int .u64 0,.int .u64 0] 148 (0,0))∧Below w.heap.size w wr) (fun _ i _=>4 - (intOf i).toNat)
 case atStart=>exact ⟨0,_,by omega,rfl,fq0,⟨rfl,fun q hq=>by match q,hq with|0,_=>rfl|1,_=>rfl|2,_=>rfl|3,_=>rfl⟩,fq1,fq2,fB⟩
 case round =>
  obtain ⟨k,vs,hk,rfl,hq0,hvs,hq1,hq2,hbr⟩:=hrel
  have l0:=zy hq0
  have l1:=zy hq1
  have l2:=zy hq2
  by_cases hlt:k<4
  ·have cA:=(zc hq0 k).trans (hvs.out.2 k hlt)
   rw[if_neg (Nat.lt_irrefl k)] at cA
   have fA:=zo hq0 k
   have cB:wr.cell? ⟨w.heap.size+1,k,none⟩=some (.int .u64 ((ze B k:Nat):Int)):=(zc hq1 k).trans (by match k,hlt with|0,_=>rfl|1,_=>rfl|2,_=>rfl|3,_=>rfl)
   have H1:=za (fun W=>or1_c (ze A k) (ze B k) W (HAl.out k) (HBl.out k))
   have HQ0:=za hq0
   have HQ1:=za hq1
   have HQ2:=za hq2
   have hWk:Hid (ze A k ||| ze B k=ze F k):=(HW.out k).symm
   generalize ze A k=x at cA H1 hWk
   generalize ze B k=y at cB H1 hWk
   clear hq0 hq1 hq2
   go_wp2
   refine zk (fun w'=>∃u,w'=over (wr) u) [10] [(0,0),(0,1),(0,2),(0,3),(0,4),(0,5),(0,6),(0,7),(1,8),(0,9),(2,10)] (by kernel_rfl) (by kernel_rfl) (by exact ⟨_,zi (by repeat (first|assumption|exact Below.refl _ _|refine zd ?_|refine zg ?_ _|refine zb ?_ (by assumption)))⟩) ?_
   dsimp only[zt,zG]
   repeat (first|(refine zu rfl (fun K hK=>?_);go_big_quiet_op;refine hK _ ?_;clear hK K)|(refine zp rfl rfl (fun K hK=>?_);go_big_quiet_op;refine hK _ ?_;clear hK K)|(refine zE ?_;go_wp2_with (go_at_call 243;refine (H1.out _).mono ?_;rintro _ w1 ⟨rfl,rfl⟩);refine ⟨?_,?_⟩;focus (exact ⟨_,zi (by repeat (first|assumption|exact Below.refl _ _|refine zd ?_|refine zg ?_ _|refine zb ?_ (by assumption)))⟩)))
   refine zA _ _ _ rfl ?_
   dsimp only[List.map]
   go_wp2_with (go_at_call 243;refine (H1.out _).mono ?_;rintro _ w1 ⟨rfl,rfl⟩)
   refine NoPanic.normal ?_
   go_wp2
   go_roundw
   case rel =>
    refine ⟨k+1,vs.setIfInBounds k (.int .u64 ((x ||| y:Nat):Int)),by omega,by go_num,zC (i:=k) (W:=wr.drew) HQ0.out _,⟨by rw[Array.size_setIfInBounds];exact hvs.out.1,fun q hq=>?_⟩,zU (W:=wr.drew) HQ1.out (by omega) _,zU (W:=wr.drew) HQ2.out (by omega) _,hbr.drew.setCell (by show w.heap.size≤w.heap.size;exact Nat.le_refl _) _⟩
    have hs:=hvs.out.1
    by_cases e:q=k
    ·subst e
     rw[Array.getElem?_setIfInBounds_self_of_lt (by omega),if_pos (by omega),hWk.out]
    ·rw[Array.getElem?_setIfInBounds_ne (Ne.symm e),hvs.out.2 q hq]
     by_cases e2:q<k
     ·rw[if_pos e2,if_pos (by omega)]
     ·rw[if_neg e2,if_neg (by omega)]
   case measure=>simp[intOf];omega
  ·have e:k=4:=by omega
   subst e
   have c0:=(zc hq0 0).trans (hvs.out.2 0 (by decide))
   have c1:=(zc hq0 1).trans (hvs.out.2 1 (by decide))
   have c2:=(zc hq0 2).trans (hvs.out.2 2 (by decide))
   have c3:=(zc hq0 3).trans (hvs.out.2 3 (by decide))
   rw[if_pos (by decide)] at c0 c1 c2 c3
   have d0:=zo hq2 0
   have d1:=zo hq2 1
   have d2:=zo hq2 2
   have d3:=zo hq2 3
   have z0:=zc hq2 0
   have z1:=zc hq2 1
   have z2:=zc hq2 2
   have z3:=zc hq2 3
   have HQ2:=za hq2
   clear hq0 hq1 hq2
   go_wp2
   have r:=zC (i:=3) (zC (i:=2) (zC (i:=1) (zC (i:=0) HQ2.out (.int .u64 ((ze F 0:Nat):Int))) (.int .u64 ((ze F 1:Nat):Int))) (.int .u64 ((ze F 2:Nat):Int))) (.int .u64 ((ze F 3:Nat):Int))
   have r0:=zc r 0
   have r1:=zc r 1
   have r2:=zc r 2
   have r3:=zc r 3
   have hle:w.heap.size≤w.heap.size+1+1:=by omega
   refine bodyPost_ret (v := .agg #[.int .u64 ((ze F 0:Nat):Int),.int .u64 ((ze F 1:Nat):Int),.int .u64 ((ze F 2:Nat):Int),.int .u64 ((ze F 3:Nat):Int)]) ?_ rfl ⟨rfl,(((hbr.setCell (p:=⟨w.heap.size+1+1,0,none⟩) hle _).setCell (p:=⟨w.heap.size+1+1,1,none⟩) hle _).setCell (p:=⟨w.heap.size+1+1,2,none⟩) hle _).setCell (p:=⟨w.heap.size+1+1,3,none⟩) hle _⟩
   simp[results,Tryz.f242,go_sem,r0,r1,r2,r3]
theorem or_c (A B:Nat) (w:World):Calls Tryz.prog 219 #[setV A,setV B] w fun e w'=>e = .returned (setV (A ||| B))∧Below w.heap.size w w':=by
 have HJ:=za (fun W=>orj_c A B W)
 unfold setV at HJ ⊢
 generalize hF:A ||| B=F at HJ ⊢
 clear hF
 go_enter Tryz.func219,Tryz.ntmps219
 go_wp2_with fail
 have fsz:(((w.alloc (.cells #[.int .u64 ((ze A 0:Nat):Int),.int .u64 ((ze A 1:Nat):Int),.int .u64 ((ze A 2:Nat):Int),.int .u64 ((ze A 3:Nat):Int)] 148)).alloc (.cells #[.int .u64 ((ze B 0:Nat):Int),.int .u64 ((ze B 1:Nat):Int),.int .u64 ((ze B 2:Nat):Int),.int .u64 ((ze B 3:Nat):Int)] 148)).alloc (.cells #[.int .u64 0,.int .u64 0,.int .u64 0,.int .u64 0] 148)).heap.size=w.heap.size+3:=by simp only[World.size_alloc] <;> omega
 have fB:Below w.heap.size w (((w.alloc (.cells #[.int .u64 ((ze A 0:Nat):Int),.int .u64 ((ze A 1:Nat):Int),.int .u64 ((ze A 2:Nat):Int),.int .u64 ((ze A 3:Nat):Int)] 148)).alloc (.cells #[.int .u64 ((ze B 0:Nat):Int),.int .u64 ((ze B 1:Nat):Int),.int .u64 ((ze B 2:Nat):Int),.int .u64 ((ze B 3:Nat):Int)] 148)).alloc (.cells #[.int .u64 0,.int .u64 0,.int .u64 0,.int .u64 0] 148)):=(((Below.refl _ _).alloc (Nat.le_refl _) _).alloc (by simp only[World.size_alloc];omega) _).alloc (by simp only[World.size_alloc];omega) _
 have fq0:(((w.alloc (.cells #[.int .u64 ((ze A 0:Nat):Int),.int .u64 ((ze A 1:Nat):Int),.int .u64 ((ze A 2:Nat):Int),.int .u64 ((ze A 3:Nat):Int)] 148)).alloc (.cells #[.int .u64 ((ze B 0:Nat):Int),.int .u64 ((ze B 1:Nat):Int),.int .u64 ((ze B 2:Nat):Int),.int .u64 ((ze B 3:Nat):Int)] 148)).alloc (.cells #[.int .u64 0,.int .u64 0,.int .u64 0,.int .u64 0] 148)).heap[w.heap.size]?=some (.cells #[.int .u64 ((ze A 0:Nat):Int),.int .u64 ((ze A 1:Nat):Int),.int .u64 ((ze A 2:Nat):Int),.int .u64 ((ze A 3:Nat):Int)] 148 (0,0)):=by have h:=World.alloc_heap_new w (.cells #[.int .u64 ((ze A 0:Nat):Int),.int .u64 ((ze A 1:Nat):Int),.int .u64 ((ze A 2:Nat):Int),.int .u64 ((ze A 3:Nat):Int)] 148);exact (Below.heap_alloc _ _ _ (by simp only[World.size_alloc];omega)).trans ((Below.heap_alloc _ _ _ (by simp only[World.size_alloc];omega)).trans (h))
 have fq1:(((w.alloc (.cells #[.int .u64 ((ze A 0:Nat):Int),.int .u64 ((ze A 1:Nat):Int),.int .u64 ((ze A 2:Nat):Int),.int .u64 ((ze A 3:Nat):Int)] 148)).alloc (.cells #[.int .u64 ((ze B 0:Nat):Int),.int .u64 ((ze B 1:Nat):Int),.int .u64 ((ze B 2:Nat):Int),.int .u64 ((ze B 3:Nat):Int)] 148)).alloc (.cells #[.int .u64 0,.int .u64 0,.int .u64 0,.int .u64 0] 148)).heap[w.heap.size+1]?=some (.cells #[.int .u64 ((ze B 0:Nat):Int),.int .u64 ((ze B 1:Nat):Int),.int .u64 ((ze B 2:Nat):Int),.int .u64 ((ze B 3:Nat):Int)] 148 (0,0)):=by have h:=World.alloc_heap_new (w.alloc (.cells #[.int .u64 ((ze A 0:Nat):Int),.int .u64 ((ze A 1:Nat):Int),.int .u64 ((ze A 2:Nat):Int),.int .u64 ((ze A 3:Nat):Int)] 148)) (.cells #[.int .u64 ((ze B 0:Nat):Int),.int .u64 ((ze B 1:Nat):Int),.int .u64 ((ze B 2:Nat):Int),.int .u64 ((ze B 3:Nat):Int)] 148);simp only[World.size_alloc] at h;exact (Below.heap_alloc _ _ _ (by simp only[World.size_alloc];omega)).trans (h)
 have fq2:(((w.alloc (.cells #[.int .u64 ((ze A 0:Nat):Int),.int .u64 ((ze A 1:Nat):Int),.int .u64 ((ze A 2:Nat):Int),.int .u64 ((ze A 3:Nat):Int)] 148)).alloc (.cells #[.int .u64 ((ze B 0:Nat):Int),.int .u64 ((ze B 1:Nat):Int),.int .u64 ((ze B 2:Nat):Int),.int .u64 ((ze B 3:Nat):Int)] 148)).alloc (.cells #[.int .u64 0,.int .u64 0,.int .u64 0,.int .u64 0] 148)).heap[w.heap.size+1+1]?=some (.cells #[.int .u64 0,.int .u64 0,.int .u64 0,.int .u64 0] 148 (0,0)):=by have h:=World.alloc_heap_new ((w.alloc (.cells #[.int .u64 ((ze A 0:Nat):Int),.int .u64 ((ze A 1:Nat):Int),.int .u64 ((ze A 2:Nat):Int),.int .u64 ((ze A 3:Nat):Int)] 148)).alloc (.cells #[.int .u64 ((ze B 0:Nat):Int),.int .u64 ((ze B 1:Nat):Int),.int .u64 ((ze B 2:Nat):Int),.int .u64 ((ze B 3:Nat):Int)] 148)) (.cells #[.int .u64 0,.int .u64 0,.int .u64 0,.int .u64 0] 148);simp only[World.size_alloc] at h;exact h
 generalize (((w.alloc (.cells #[.int .u64 ((ze A 0:Nat):Int),.int .u64 ((ze A 1:Nat):Int),.int .u64 ((ze A 2:Nat):Int),.int .u64 ((ze A 3:Nat):Int)] 148)).alloc (.cells #[.int .u64 ((ze B 0:Nat):Int),.int .u64 ((ze B 1:Nat):Int),.int .u64 ((ze B 2:Nat):Int),.int .u64 ((ze B 3:Nat):Int)] 148)).alloc (.cells #[.int .u64 0,.int .u64 0,.int .u64 0,.int .u64 0] 148))=W0 at fsz fB fq0 fq1 fq2 ⊢
 have hsz0:w.heap.size≤W0.heap.size:=by omega
 clear fsz
 refine (HJ.out W0).mono ?_
 rintro _ w1 ⟨rfl,hb1⟩
 have hq2:=zm hb1 fq2
 have hbr:=fB.trans (hb1.mono hsz0)
 have d0:=zo hq2 0
 have d1:=zo hq2 1
 have d2:=zo hq2 2
 have d3:=zo hq2 3
 have z0:=zc hq2 0
 have z1:=zc hq2 1
 have z2:=zc hq2 2
 have z3:=zc hq2 3
 have l2:=zy hq2
 have HQ2:=za hq2
 clear hq2 fq0 fq1 fq2
 go_wp2
 have r:=zC (i:=3) (zC (i:=2) (zC (i:=1) (zC (i:=0) HQ2.out (.int .u64 ((ze F 0:Nat):Int))) (.int .u64 ((ze F 1:Nat):Int))) (.int .u64 ((ze F 2:Nat):Int))) (.int .u64 ((ze F 3:Nat):Int))
 have r0:=zc r 0
 have r1:=zc r 1
 have r2:=zc r 2
 have r3:=zc r 3
 have hle:w.heap.size≤w.heap.size+1+1:=by omega
 refine bodyPost_ret (v := .agg #[.int .u64 ((ze F 0:Nat):Int),.int .u64 ((ze F 1:Nat):Int),.int .u64 ((ze F 2:Nat):Int),.int .u64 ((ze F 3:Nat):Int)]) ?_ rfl ⟨rfl,(((hbr.setCell (p:=⟨w.heap.size+1+1,0,none⟩) hle _).setCell (p:=⟨w.heap.size+1+1,1,none⟩) hle _).setCell (p:=⟨w.heap.size+1+1,2,none⟩) hle _).setCell (p:=⟨w.heap.size+1+1,3,none⟩) hle _⟩
 simp[results,Tryz.f219,go_sem,r0,r1,r2,r3]
theorem without1_c (x y:Nat) (w:World) (hx:x<18446744073709551616) (hy:y<18446744073709551616):Calls Tryz.prog 259 #[.int .u64 (x:Int),.int .u64 (y:Int)] w fun e w'=>e = .returned (.int .u64 ((x &&& (18446744073709551615 - y):Nat):Int))∧w=w':=by
 have hE:Hid (bits BinOp.andNot IntKind.u64 (x:Int) (y:Int)=((x &&& (18446744073709551615 - y):Nat):Int)):=u64_andNot_nat _ _ hx hy
 clear hx hy
 go_enter Tryz.func259,Tryz.ntmps259
 go_wp2
 go_ret
 exact ⟨by rw[← hE.out];rfl,rfl⟩
theorem withoutj_c (A B:Nat) (w:World):Calls Tryz.prog 242 #[setV A,setV B,.func (Fn.func 259) #[] #[]] w fun e w'=>e = .returned (setV (minus A B))∧Below w.heap.size w w':=by
 have HW:=za (fun q=>word_minus A B q)
 have HAl:=za (fun q=>jp A q)
 have HBl:=za (fun q=>jp B q)
 unfold setV
 generalize hF:minus A B=F at HW ⊢
 clear hF
 go_enter Tryz.func242,Tryz.ntmps242
 go_wp2_with fail
 have fsz:(((w.alloc (.cells #[.int .u64 ((ze A 0:Nat):Int),.int .u64 ((ze A 1:Nat):Int),.int .u64 ((ze A 2:Nat):Int),.int .u64 ((ze A 3:Nat):Int)] 148)).alloc (.cells #[.int .u64 ((ze B 0:Nat):Int),.int .u64 ((ze B 1:Nat):Int),.int .u64 ((ze B 2:Nat):Int),.int .u64 ((ze B 3:Nat):Int)] 148)).alloc (.cells #[.int .u64 0,.int .u64 0,.int .u64 0,.int .u64 0] 148)).heap.size=w.heap.size+3:=by simp only[World.size_alloc] <;> omega
 have fB:Below w.heap.size w (((w.alloc (.cells #[.int .u64 ((ze A 0:Nat):Int),.int .u64 ((ze A 1:Nat):Int),.int .u64 ((ze A 2:Nat):Int),.int .u64 ((ze A 3:Nat):Int)] 148)).alloc (.cells #[.int .u64 ((ze B 0:Nat):Int),.int .u64 ((ze B 1:Nat):Int),.int .u64 ((ze B 2:Nat):Int),.int .u64 ((ze B 3:Nat):Int)] 148)).alloc (.cells #[.int .u64 0,.int .u64 0,.int .u64 0,.int .u64 0] 148)):=(((Below.refl _ _).alloc (Nat.le_refl _) _).alloc (by simp only[World.size_alloc];omega) _).alloc (by simp only[World.size_alloc];omega) _
 have fq0:(((w.alloc (.cells #[.int .u64 ((ze A 0:Nat):Int),.int .u64 ((ze A 1:Nat):Int),.int .u64 ((ze A 2:Nat):Int),.int .u64 ((ze A 3:Nat):Int)] 148)).alloc (.cells #[.int .u64 ((ze B 0:Nat):Int),.int .u64 ((ze B 1:Nat):Int),.int .u64 ((ze B 2:Nat):Int),.int .u64 ((ze B 3:Nat):Int)] 148)).alloc (.cells #[.int .u64 0,.int .u64 0,.int .u64 0,.int .u64 0] 148)).heap[w.heap.size]?=some (.cells #[.int .u64 ((ze A 0:Nat):Int),.int .u64 ((ze A 1:Nat):Int),.int .u64 ((ze A 2:Nat):Int),.int .u64 ((ze A 3:Nat):Int)] 148 (0,0)):=by have h:=World.alloc_heap_new w (.cells #[.int .u64 ((ze A 0:Nat):Int),.int .u64 ((ze A 1:Nat):Int),.int .u64 ((ze A 2:Nat):Int),.int .u64 ((ze A 3:Nat):Int)] 148);exact (Below.heap_alloc _ _ _ (by simp only[World.size_alloc];omega)).trans ((Below.heap_alloc _ _ _ (by simp only[World.size_alloc];omega)).trans (h))
 have fq1:(((w.alloc (.cells #[.int .u64 ((ze A 0:Nat):Int),.int .u64 ((ze A 1:Nat):Int),.int .u64 ((ze A 2:Nat):Int),.int .u64 ((ze A 3:Nat):Int)] 148)).alloc (.cells #[.int .u64 ((ze B 0:Nat):Int),.int .u64 ((ze B 1:Nat):Int),.int .u64 ((ze B 2:Nat):Int),.int .u64 ((ze B 3:Nat):Int)] 148)).alloc (.cells #[.int .u64 0,.int .u64 0,.int .u64 0,.int .u64 0] 148)).heap[w.heap.size+1]?=some (.cells #[.int .u64 ((ze B 0:Nat):Int),.int .u64 ((ze B 1:Nat):Int),.int .u64 ((ze B 2:Nat):Int),.int .u64 ((ze B 3:Nat):Int)] 148 (0,0)):=by have h:=World.alloc_heap_new (w.alloc (.cells #[.int .u64 ((ze A 0:Nat):Int),.int .u64 ((ze A 1:Nat):Int),.int .u64 ((ze A 2:Nat):Int),.int .u64 ((ze A 3:Nat):Int)] 148)) (.cells #[.int .u64 ((ze B 0:Nat):Int),.int .u64 ((ze B 1:Nat):Int),.int .u64 ((ze B 2:Nat):Int),.int .u64 ((ze B 3:Nat):Int)] 148);simp only[World.size_alloc] at h;exact (Below.heap_alloc _ _ _ (by simp only[World.size_alloc];omega)).trans (h)
 have fq2:(((w.alloc (.cells #[.int .u64 ((ze A 0:Nat):Int),.int .u64 ((ze A 1:Nat):Int),.int .u64 ((ze A 2:Nat):Int),.int .u64 ((ze A 3:Nat):Int)] 148)).alloc (.cells #[.int .u64 ((ze B 0:Nat):Int),.int .u64 ((ze B 1:Nat):Int),.int .u64 ((ze B 2:Nat):Int),.int .u64 ((ze B 3:Nat):Int)] 148)).alloc (.cells #[.int .u64 0,.int .u64 0,.int .u64 0,.int .u64 0] 148)).heap[w.heap.size+1+1]?=some (.cells #[.int .u64 0,.int .u64 0,.int .u64 0,.int .u64 0] 148 (0,0)):=by have h:=World.alloc_heap_new ((w.alloc (.cells #[.int .u64 ((ze A 0:Nat):Int),.int .u64 ((ze A 1:Nat):Int),.int .u64 ((ze A 2:Nat):Int),.int .u64 ((ze A 3:Nat):Int)] 148)).alloc (.cells #[.int .u64 ((ze B 0:Nat):Int),.int .u64 ((ze B 1:Nat):Int),.int .u64 ((ze B 2:Nat):Int),.int .u64 ((ze B 3:Nat):Int)] 148)) (.cells #[.int .u64 0,.int .u64 0,.int .u64 0,.int .u64 0] 148);simp only[World.size_alloc] at h;exact h
 generalize (((w.alloc (.cells #[.int .u64 ((ze A 0:Nat):Int),.int .u64 ((ze A 1:Nat):Int),.int .u64 ((ze A 2:Nat):Int),.int .u64 ((ze A 3:Nat):Int)] 148)).alloc (.cells #[.int .u64 ((ze B 0:Nat):Int),.int .u64 ((ze B 1:Nat):Int),.int .u64 ((ze B 2:Nat):Int),.int .u64 ((ze B 3:Nat):Int)] 148)).alloc (.cells #[.int .u64 0,.int .u64 0,.int .u64 0,.int .u64 0] 148))=W0 at fsz fB fq0 fq1 fq2 ⊢
 have HSZ:=za fsz
 have fsz':w.heap.size+2<W0.heap.size:=by omega
 clear fsz
 go_loopw [7,8] (fun _ i wr=>∃(k:Nat) (vs:Array Value),k≤4∧i = .int .i64 k∧wr.heap[w.heap.size]?=some (.cells vs 148 (0,0))∧Hid (vs.size=4∧∀q,q<4→vs[q]?=some (.int .u64 ((ze (if q<k then F else A) q:Nat):Int))) ∧
  wr.heap[w.heap.size+1]?=some (.cells #[.int .u64 ((ze B 0:Nat):Int),.int .u64 ((ze B 1:Nat):Int),.int .u64 ((ze B 2:Nat):Int),.int .u64 ((ze B 3:Nat):Int)] 148 (0,0))∧wr.heap[w.heap.size+1+1]?=some (.cells #[.int .u64 0,.int .u64 0,.int .u64 0,.int .u64 0] 148 (0,0))∧Below w.heap.size w wr) (fun _ i _=>4 - (intOf i).toNat)
 case atStart=>exact ⟨0,_,by omega,rfl,fq0,⟨rfl,fun q hq=>by match q,hq with|0,_=>rfl|1,_=>rfl|2,_=>rfl|3,_=>rfl⟩,fq1,fq2,fB⟩
 case round =>
  obtain ⟨k,vs,hk,rfl,hq0,hvs,hq1,hq2,hbr⟩:=hrel
  have l0:=zy hq0
  have l1:=zy hq1
  have l2:=zy hq2
  by_cases hlt:k<4
  ·have cA:=(zc hq0 k).trans (hvs.out.2 k hlt)
   rw[if_neg (Nat.lt_irrefl k)] at cA
   have fA:=zo hq0 k
   have cB:wr.cell? ⟨w.heap.size+1,k,none⟩=some (.int .u64 ((ze B k:Nat):Int)):=(zc hq1 k).trans (by match k,hlt with|0,_=>rfl|1,_=>rfl|2,_=>rfl|3,_=>rfl)
   have H1:=za (fun W=>without1_c (ze A k) (ze B k) W (HAl.out k) (HBl.out k))
   have HQ0:=za hq0
   have HQ1:=za hq1
   have HQ2:=za hq2
   have hWk:Hid (ze A k &&& (18446744073709551615 - ze B k)=ze F k):=(HW.out k).symm
   generalize ze A k=x at cA H1 hWk
   generalize ze B k=y at cB H1 hWk
   clear hq0 hq1 hq2
   go_wp2
   refine zk (fun w'=>∃u,w'=over (wr) u) [10] [(0,0),(0,1),(0,2),(0,3),(0,4),(0,5),(0,6),(0,7),(1,8),(0,9),(2,10)] (by kernel_rfl) (by kernel_rfl) (by exact ⟨_,zi (by repeat (first|assumption|exact Below.refl _ _|refine zd ?_|refine zg ?_ _|refine zb ?_ (by assumption)))⟩) ?_
   dsimp only[zt,zG]
   repeat (first|(refine zu rfl (fun K hK=>?_);go_big_quiet_op;refine hK _ ?_;clear hK K)|(refine zp rfl rfl (fun K hK=>?_);go_big_quiet_op;refine hK _ ?_;clear hK K)|(refine zE ?_;go_wp2_with (go_at_call 259;refine (H1.out _).mono ?_;rintro _ w1 ⟨rfl,rfl⟩);refine ⟨?_,?_⟩;focus (exact ⟨_,zi (by repeat (first|assumption|exact Below.refl _ _|refine zd ?_|refine zg ?_ _|refine zb ?_ (by assumption)))⟩)))
   refine zA _ _ _ rfl ?_
   dsimp only[List.map]
   go_wp2_with (go_at_call 259;refine (H1.out _).mono ?_;rintro _ w1 ⟨rfl,rfl⟩)
   refine NoPanic.normal ?_
   go_wp2
   go_roundw
   case rel =>
    refine ⟨k+1,vs.setIfInBounds k (.int .u64 ((x &&& (18446744073709551615 - y):Nat):Int)),by omega,by go_num,zC (i:=k) (W:=wr.drew) HQ0.out _,⟨by rw[Array.size_setIfInBounds];exact hvs.out.1,fun q hq=>?_⟩,zU (W:=wr.drew) HQ1.out (by omega) _,zU (W:=wr.drew) HQ2.out (by omega) _,hbr.drew.setCell (by show w.heap.size≤w.heap.size;exact Nat.le_refl _) _⟩
    have hs:=hvs.out.1
    by_cases e:q=k
    ·subst e
     rw[Array.getElem?_setIfInBounds_self_of_lt (by omega),if_pos (by omega),hWk.out]
    ·rw[Array.getElem?_setIfInBounds_ne (Ne.symm e),hvs.out.2 q hq]
     by_cases e2:q<k
     ·rw[if_pos e2,if_pos (by omega)]
     ·rw[if_neg e2,if_neg (by omega)]
   case measure=>simp[intOf];omega
  ·have e:k=4:=by omega
   subst e
   have c0:=(zc hq0 0).trans (hvs.out.2 0 (by decide))
   have c1:=(zc hq0 1).trans (hvs.out.2 1 (by decide))
   have c2:=(zc hq0 2).trans (hvs.out.2 2 (by decide))
   have c3:=(zc hq0 3).trans (hvs.out.2 3 (by decide))
   rw[if_pos (by decide)] at c0 c1 c2 c3
   have d0:=zo hq2 0
   have d1:=zo hq2 1
   have d2:=zo hq2 2
   have d3:=zo hq2 3
   have z0:=zc hq2 0
   have z1:=zc hq2 1
   have z2:=zc hq2 2
   have z3:=zc hq2 3
   have HQ2:=za hq2
   clear hq0 hq1 hq2
   go_wp2
   have r:=zC (i:=3) (zC (i:=2) (zC (i:=1) (zC (i:=0) HQ2.out (.int .u64 ((ze F 0:Nat):Int))) (.int .u64 ((ze F 1:Nat):Int))) (.int .u64 ((ze F 2:Nat):Int))) (.int .u64 ((ze F 3:Nat):Int))
   have r0:=zc r 0
   have r1:=zc r 1
   have r2:=zc r 2
   have r3:=zc r 3
   have hle:w.heap.size≤w.heap.size+1+1:=by omega
   refine bodyPost_ret (v := .agg #[.int .u64 ((ze F 0:Nat):Int),.int .u64 ((ze F 1:Nat):Int),.int .u64 ((ze F 2:Nat):Int),.int .u64 ((ze F 3:Nat):Int)]) ?_ rfl ⟨rfl,(((hbr.setCell (p:=⟨w.heap.size+1+1,0,none⟩) hle _).setCell (p:=⟨w.heap.size+1+1,1,none⟩) hle _).setCell (p:=⟨w.heap.size+1+1,2,none⟩) hle _).setCell (p:=⟨w.heap.size+1+1,3,none⟩) hle _⟩
   simp[results,Tryz.f242,go_sem,r0,r1,r2,r3]
theorem without_c (A B:Nat) (w:World):Calls Tryz.prog 241 #[setV A,setV B] w fun e w'=>e = .returned (setV (minus A B))∧Below w.heap.size w w':=by
 have HJ:=za (fun W=>withoutj_c A B W)
 unfold setV at HJ ⊢
 generalize hF:minus A B=F at HJ ⊢
 clear hF
 go_enter Tryz.func241,Tryz.ntmps241
 go_wp2_with fail
 have fsz:(((w.alloc (.cells #[.int .u64 ((ze A 0:Nat):Int),.int .u64 ((ze A 1:Nat):Int),.int .u64 ((ze A 2:Nat):Int),.int .u64 ((ze A 3:Nat):Int)] 148)).alloc (.cells #[.int .u64 ((ze B 0:Nat):Int),.int .u64 ((ze B 1:Nat):Int),.int .u64 ((ze B 2:Nat):Int),.int .u64 ((ze B 3:Nat):Int)] 148)).alloc (.cells #[.int .u64 0,.int .u64 0,.int .u64 0,.int .u64 0] 148)).heap.size=w.heap.size+3:=by simp only[World.size_alloc] <;> omega
 have fB:Below w.heap.size w (((w.alloc (.cells #[.int .u64 ((ze A 0:Nat):Int),.int .u64 ((ze A 1:Nat):Int),.int .u64 ((ze A 2:Nat):Int),.int .u64 ((ze A 3:Nat):Int)] 148)).alloc (.cells #[.int .u64 ((ze B 0:Nat):Int),.int .u64 ((ze B 1:Nat):Int),.int .u64 ((ze B 2:Nat):Int),.int .u64 ((ze B 3:Nat):Int)] 148)).alloc (.cells #[.int .u64 0,.int .u64 0,.int .u64 0,.int .u64 0] 148)):=(((Below.refl _ _).alloc (Nat.le_refl _) _).alloc (by simp only[World.size_alloc];omega) _).alloc (by simp only[World.size_alloc];omega) _
 have fq0:(((w.alloc (.cells #[.int .u64 ((ze A 0:Nat):Int),.int .u64 ((ze A 1:Nat):Int),.int .u64 ((ze A 2:Nat):Int),.int .u64 ((ze A 3:Nat):Int)] 148)).alloc (.cells #[.int .u64 ((ze B 0:Nat):Int),.int .u64 ((ze B 1:Nat):Int),.int .u64 ((ze B 2:Nat):Int),.int .u64 ((ze B 3:Nat):Int)] 148)).alloc (.cells #[.int .u64 0,.int .u64 0,.int .u64 0,.int .u64 0] 148)).heap[w.heap.size]?=some (.cells #[.int .u64 ((ze A 0:Nat):Int),.int .u64 ((ze A 1:Nat):Int),.int .u64 ((ze A 2:Nat):Int),.int .u64 ((ze A 3:Nat):Int)] 148 (0,0)):=by have h:=World.alloc_heap_new w (.cells #[.int .u64 ((ze A 0:Nat):Int),.int .u64 ((ze A 1:Nat):Int),.int .u64 ((ze A 2:Nat):Int),.int .u64 ((ze A 3:Nat):Int)] 148);exact (Below.heap_alloc _ _ _ (by simp only[World.size_alloc];omega)).trans ((Below.heap_alloc _ _ _ (by simp only[World.size_alloc];omega)).trans (h))
 have fq1:(((w.alloc (.cells #[.int .u64 ((ze A 0:Nat):Int),.int .u64 ((ze A 1:Nat):Int),.int .u64 ((ze A 2:Nat):Int),.int .u64 ((ze A 3:Nat):Int)] 148)).alloc (.cells #[.int .u64 ((ze B 0:Nat):Int),.int .u64 ((ze B 1:Nat):Int),.int .u64 ((ze B 2:Nat):Int),.int .u64 ((ze B 3:Nat):Int)] 148)).alloc (.cells #[.int .u64 0,.int .u64 0,.int .u64 0,.int .u64 0] 148)).heap[w.heap.size+1]?=some (.cells #[.int .u64 ((ze B 0:Nat):Int),.int .u64 ((ze B 1:Nat):Int),.int .u64 ((ze B 2:Nat):Int),.int .u64 ((ze B 3:Nat):Int)] 148 (0,0)):=by have h:=World.alloc_heap_new (w.alloc (.cells #[.int .u64 ((ze A 0:Nat):Int),.int .u64 ((ze A 1:Nat):Int),.int .u64 ((ze A 2:Nat):Int),.int .u64 ((ze A 3:Nat):Int)] 148)) (.cells #[.int .u64 ((ze B 0:Nat):Int),.int .u64 ((ze B 1:Nat):Int),.int .u64 ((ze B 2:Nat):Int),.int .u64 ((ze B 3:Nat):Int)] 148);simp only[World.size_alloc] at h;exact (Below.heap_alloc _ _ _ (by simp only[World.size_alloc];omega)).trans (h)
 have fq2:(((w.alloc (.cells #[.int .u64 ((ze A 0:Nat):Int),.int .u64 ((ze A 1:Nat):Int),.int .u64 ((ze A 2:Nat):Int),.int .u64 ((ze A 3:Nat):Int)] 148)).alloc (.cells #[.int .u64 ((ze B 0:Nat):Int),.int .u64 ((ze B 1:Nat):Int),.int .u64 ((ze B 2:Nat):Int),.int .u64 ((ze B 3:Nat):Int)] 148)).alloc (.cells #[.int .u64 0,.int .u64 0,.int .u64 0,.int .u64 0] 148)).heap[w.heap.size+1+1]?=some (.cells #[.int .u64 0,.int .u64 0,.int .u64 0,.int .u64 0] 148 (0,0)):=by have h:=World.alloc_heap_new ((w.alloc (.cells #[.int .u64 ((ze A 0:Nat):Int),.int .u64 ((ze A 1:Nat):Int),.int .u64 ((ze A 2:Nat):Int),.int .u64 ((ze A 3:Nat):Int)] 148)).alloc (.cells #[.int .u64 ((ze B 0:Nat):Int),.int .u64 ((ze B 1:Nat):Int),.int .u64 ((ze B 2:Nat):Int),.int .u64 ((ze B 3:Nat):Int)] 148)) (.cells #[.int .u64 0,.int .u64 0,.int .u64 0,.int .u64 0] 148);simp only[World.size_alloc] at h;exact h
 generalize (((w.alloc (.cells #[.int .u64 ((ze A 0:Nat):Int),.int .u64 ((ze A 1:Nat):Int),.int .u64 ((ze A 2:Nat):Int),.int .u64 ((ze A 3:Nat):Int)] 148)).alloc (.cells #[.int .u64 ((ze B 0:Nat):Int),.int .u64 ((ze B 1:Nat):Int),.int .u64 ((ze B 2:Nat):Int),.int .u64 ((ze B 3:Nat):Int)] 148)).alloc (.cells #[.int .u64 0,.int .u64 0,.int .u64 0,.int .u64 0] 148))=W0 at fsz fB fq0 fq1 fq2 ⊢
 have hsz0:w.heap.size≤W0.heap.size:=by omega
 clear fsz
 refine (HJ.out W0).mono ?_
 rintro _ w1 ⟨rfl,hb1⟩
 have hq2:=zm hb1 fq2
 have hbr:=fB.trans (hb1.mono hsz0)
 have d0:=zo hq2 0
 have d1:=zo hq2 1
 have d2:=zo hq2 2
 have d3:=zo hq2 3
 have z0:=zc hq2 0
 have z1:=zc hq2 1
 have z2:=zc hq2 2
 have z3:=zc hq2 3
 have l2:=zy hq2
 have HQ2:=za hq2
 clear hq2 fq0 fq1 fq2
 go_wp2
 have r:=zC (i:=3) (zC (i:=2) (zC (i:=1) (zC (i:=0) HQ2.out (.int .u64 ((ze F 0:Nat):Int))) (.int .u64 ((ze F 1:Nat):Int))) (.int .u64 ((ze F 2:Nat):Int))) (.int .u64 ((ze F 3:Nat):Int))
 have r0:=zc r 0
 have r1:=zc r 1
 have r2:=zc r 2
 have r3:=zc r 3
 have hle:w.heap.size≤w.heap.size+1+1:=by omega
 refine bodyPost_ret (v := .agg #[.int .u64 ((ze F 0:Nat):Int),.int .u64 ((ze F 1:Nat):Int),.int .u64 ((ze F 2:Nat):Int),.int .u64 ((ze F 3:Nat):Int)]) ?_ rfl ⟨rfl,(((hbr.setCell (p:=⟨w.heap.size+1+1,0,none⟩) hle _).setCell (p:=⟨w.heap.size+1+1,1,none⟩) hle _).setCell (p:=⟨w.heap.size+1+1,2,none⟩) hle _).setCell (p:=⟨w.heap.size+1+1,3,none⟩) hle _⟩
 simp[results,Tryz.f241,go_sem,r0,r1,r2,r3]
end
section
open Go Go.RowKit
theorem tab_le (n:Nat) (h:n<256):Lib.bitLen n≤8:=Lib.bitLen_le8 ⟨n,h⟩
theorem tab_at (n:Nat) (h:n<256) (h':n<Lib.len8tab.size):(((Lib.len8tab[n]'h').toNat:Nat):Int)=(Lib.bitLen n:Int):=by
  have e:=Lib.len8_of (n:Int) (by omega) (by omega)
  unfold Lib.len8 at e
  rw[Int.toNat_natCast,ByteArray.getElem?_lt' _ _ h',Option.getD_some] at e
  exact e
theorem len_fin (k:Int) (v r:Nat) (hv:v≤8) (h0:0≤k) (h1:k≤56) (e:(r:Int)=k+v):wrap64 (k+wrap64 (v:Int))=(r:Int):=by
  have e1:wrap64 (v:Int)=(v:Int):=by unfold wrap64;omega
  rw[e1,e]
  unfold wrap64
  omega
theorem len_fin0 (v:Nat) (hv:v≤8):wrap64 (wrap64 (v:Int))=(v:Int):=by
  have e1:wrap64 (v:Int)=(v:Int):=by unfold wrap64;omega
  rw[e1,e1]
theorem len64_c (x:Int) (w:World) (h0:0≤x) (h1:x≤18446744073709551615) :
    Calls Tryz.prog 208 #[.int .u64 x] w fun e w'=>e = .returned (.int .i64 (Lib.bitLen x.toNat))∧w=w':=by
  have hs8:Lib.len8tab.size=256:=Lib.len8tab_size
  go_enter Tryz.func208,Tryz.ntmps208
  go_wp2
  all_goals (go_ret;refine ⟨congrArg Ending.returned (congrArg (Value.int IntKind.i64) ?_),rfl⟩)
  all_goals first
    | (rw[tab_at (x / 4294967296 / 65536 / 256).toNat (by omega)]
       have e:(x / 4294967296 / 65536 / 256).toNat=x.toNat / 72057594037927936:=by omega
       have l:=(tab_le (x / 4294967296 / 65536 / 256).toNat (by omega))
       have s:=Lib.bitLen_shift56 x.toNat (by omega) (by omega)
       refine len_fin _ _ _ l (by decide) (by decide) ?_
       rw[e,s]
       rfl)
    | (rw[tab_at (x / 4294967296 / 65536).toNat (by omega)]
       have e:(x / 4294967296 / 65536).toNat=x.toNat / 281474976710656:=by omega
       have l:=(tab_le (x / 4294967296 / 65536).toNat (by omega))
       have s:=Lib.bitLen_shift48 x.toNat (by omega) (by omega)
       refine len_fin _ _ _ l (by decide) (by decide) ?_
       rw[e,s]
       rfl)
    | (rw[tab_at (x / 4294967296 / 256).toNat (by omega)]
       have e:(x / 4294967296 / 256).toNat=x.toNat / 1099511627776:=by omega
       have l:=(tab_le (x / 4294967296 / 256).toNat (by omega))
       have s:=Lib.bitLen_shift40 x.toNat (by omega) (by omega)
       refine len_fin _ _ _ l (by decide) (by decide) ?_
       rw[e,s]
       rfl)
    | (rw[tab_at (x / 4294967296).toNat (by omega)]
       have e:(x / 4294967296).toNat=x.toNat / 4294967296:=by omega
       have l:=(tab_le (x / 4294967296).toNat (by omega))
       have s:=Lib.bitLen_shift32 x.toNat (by omega) (by omega)
       refine len_fin _ _ _ l (by decide) (by decide) ?_
       rw[e,s]
       rfl)
    | (rw[tab_at (x / 65536 / 256).toNat (by omega)]
       have e:(x / 65536 / 256).toNat=x.toNat / 16777216:=by omega
       have l:=(tab_le (x / 65536 / 256).toNat (by omega))
       have s:=Lib.bitLen_shift24 x.toNat (by omega) (by omega)
       refine len_fin _ _ _ l (by decide) (by decide) ?_
       rw[e,s]
       rfl)
    | (rw[tab_at (x / 65536).toNat (by omega)]
       have e:(x / 65536).toNat=x.toNat / 65536:=by omega
       have l:=(tab_le (x / 65536).toNat (by omega))
       have s:=Lib.bitLen_shift16 x.toNat (by omega) (by omega)
       refine len_fin _ _ _ l (by decide) (by decide) ?_
       rw[e,s]
       rfl)
    | (rw[tab_at (x / 256).toNat (by omega)]
       have e:(x / 256).toNat=x.toNat / 256:=by omega
       have l:=(tab_le (x / 256).toNat (by omega))
       have s:=Lib.bitLen_shift8 x.toNat (by omega) (by omega)
       refine len_fin _ _ _ l (by decide) (by decide) ?_
       rw[e,s]
       rfl)
    | (rw[tab_at x.toNat (by omega)]
       have l:=(tab_le x.toNat (by omega))
       exact len_fin0 _ l)
attribute [local go_sem] zv
attribute [local go_sem] Oper.semAt_some
theorem bitLenAux_le:∀f x:Nat,Lib.bitLenAux f x≤f
  | 0,_=>Nat.le_refl _
  | f+1,x=>by
    unfold Lib.bitLenAux
    split
    · omega
    · have:=bitLenAux_le f (x / 2);omega
def greatTo (M:Nat):Nat→Nat
  | 0=>0
  | k+1=>if ze M k=0 then greatTo M k else 64*k+Lib.bitLen (ze M k)
def greatM (M:Nat):Nat:=greatTo M 4
theorem great_c (b off M:Nat) (w:World) (h:SetC w b off M) :
    Calls Tryz.prog 240 #[.pointer (some ⟨b,off,none⟩)] w fun e w'=>e = .returned (.int .i64 (greatM M:Nat))∧w=w':=by
  have H:=za h
  clear h
  go_enter Tryz.func240,Tryz.ntmps240
  go_wp2_with fail
  go_loop [3] (fun i=>∃k:Nat,k≤4∧i = .int .i64 ((k:Int) - 1)∧Hid (greatM M=greatTo M k)) (fun i=>(intOf i+1).toNat)
  case atStart=>exact ⟨4,by omega,rfl,rfl⟩
  case round =>
    obtain ⟨k,hk,rfl,hg⟩:=hrel
    cases k with
    | zero =>
      go_wp2
      go_ret
      exact ⟨zD (by rw[hg.out];rfl),rfl⟩
    | succ k =>
      have hc:=H.out k (by omega)
      have hlt:=jp M k
      have hS:Hid (greatTo M (k+1)=if ze M k=0 then greatTo M k else 64*k+Lib.bitLen (ze M k)):=rfl
      generalize ze M k=v at hc hlt hS
      have ek:(((k+1:Nat):Int) - 1)=(k:Int):=by omega
      rw[ek]
      have hk4:(k:Int)<4:=by omega
      by_cases hz:v=0
      · subst hz
        rw[if_pos rfl] at hS
        have HK:=za ek
        clear ek
        go_wp2
        go_round
        case rel=>exact ⟨k,by omega,rfl,by rw[Hid];rw[hg.out,hS.out]⟩
        case measure=>simp[intOf]
      · rw[if_neg hz] at hS
        have hz2:((v:Int) != 0)=true:=by simp;omega
        have hbl:Lib.bitLen v≤64:=bitLenAux_le 64 v
        have HK:=za ek
        have HL:=za (len64_c (v:Int) w (by omega) (by omega))
        rw[Int.toNat_natCast] at HL
        generalize Lib.bitLen v=bl at *
        clear ek hz
        go_wp2_with (go_at_call 208;refine HL.out.mono ?_;rintro _ w1 ⟨rfl,rfl⟩)
        go_ret
        exact ⟨zD (by rw[hg.out,hS.out];omega),rfl⟩
def qI (M x:Nat):List Int:=((List.range x).filter fun i=>M.testBit i).map fun (i:Nat)=>(i:Int)+1
def elemsM (M:Nat):List Int:=qI M 256
theorem aboveM_first {M x j:Nat} (h1:x<j) (h2:j≤256) (h3:M.testBit (j - 1)=true):0<zJ M x∧zJ M x≤j:=by
  unfold zJ
  cases h:(List.range 257).find? (fun j=>decide (x<j)&&M.testBit (j - 1)) with
  | none =>
    rw[List.find?_range_eq_none] at h
    have:=h j (by omega)
    simp[h1,h3] at this
  | some i =>
    rw[List.find?_range_eq_some] at h
    obtain ⟨h4,_,h5⟩:=h
    simp only[Bool.and_eq_true,decide_eq_true_eq] at h4
    refine ⟨by simp only;omega,?_⟩
    simp only
    by_cases e:i≤j
    · exact e
    · have:=h5 j (by omega)
      simp[h1,h3] at this
theorem elemsTo_len (M x:Nat):(qI M x).length≤x:=by
  simp only[qI,List.length_map]
  have:=List.length_filter_le (fun (i:Nat)=>M.testBit i) (List.range x)
  simpa using this
theorem elemsTo_gap {M:Nat}:∀{x y:Nat},x≤y→(∀j,x<j→j≤y→M.testBit (j - 1)=false)→qI M y=qI M x
  | x,0,h,_=>by rw[show x=0 from by omega]
  | x,y+1,h,hn=>by
    by_cases e:x=y+1
    · rw[e]
    · rw[← elemsTo_gap (x:=x) (y:=y) (by omega) (fun j h1 h2=>hn j h1 (by omega))]
      unfold qI
      rw[List.range_succ,List.filter_append,List.map_append]
      have:=hn (y+1) (by omega) (Nat.le_refl _)
      rw[Nat.add_sub_cancel] at this
      simp[this]
theorem elemsTo_next {M x:Nat} (h:0<zJ M x):qI M (zJ M x)=qI M x++[((zJ M x:Nat):Int)]:=by
  obtain ⟨h1,h2,h3⟩:=jH h
  have hgap:∀j,x<j→j≤zJ M x - 1→M.testBit (j - 1)=false:=by
    intro j ha hb
    rw[Bool.eq_false_iff]
    intro ht
    have:=(aboveM_first (M:=M) ha (by omega) ht).2
    omega
  generalize zJ M x=k at *
  rw[← elemsTo_gap (M:=M) (x:=x) (y:=k - 1) (by omega) hgap]
  obtain ⟨k,rfl⟩:∃m,k=m+1:=⟨k - 1,by omega⟩
  rw[Nat.add_sub_cancel] at h3 ⊢
  unfold qI
  rw[List.range_succ,List.filter_append,List.map_append]
  simp[h3]
theorem elemsTo_last {M x:Nat} (hx:x≤256) (h:zJ M x=0):elemsM M=qI M x:=by
  refine elemsTo_gap hx fun j h1 h2=>?_
  rw[Bool.eq_false_iff]
  intro ht
  have:=(aboveM_first (M:=M) h1 h2 ht).1
  omega
theorem SetC.keep {w w':World} {b off M:Nat} (h:SetC w b off M) (hb:b<w.heap.size) (hB:Below w.heap.size w w'):SetC w' b off M:=fun q hq=>((zF hB).1 _ _ hb).trans (h q hq)
theorem elems_c (b off M:Nat) (w:World) (h:SetC w b off M) (hb:b<w.heap.size) :
    Calls Tryz.prog 92 #[.pointer (some ⟨b,off,none⟩)] w fun e w'=>∃v,e = .returned v∧w'.ownsRow w.heap.size 3 1 v (elemsM M).length ((elemsM M).map (Value.int .i64))∧Below w.heap.size w w':=by
  obtain ⟨i0,hi,hz0,hz1,hz2⟩:=info_parts qk
  have HA:=za (fun (W:World) (hB:Below w.heap.size w W) (x:Nat) (hx:x≤256)=>qR b off M x W (h.keep hb hB) hx)
  clear h
  go_enter Tryz.func92,Tryz.ntmps92
  go_wp2_with fail
  refine (HA.out w (Below.refl _ _) 0 (by omega)).mono ?_
  rintro _ w1 ⟨rfl,rfl⟩
  go_wp2_with fail
  go_loopw [3,4] (fun v x wr=>∃y:Nat,y≤256∧x = .int .i64 (zJ M y:Nat)∧wr.ownsRow w.heap.size 3 1 v (qI M y).length ((qI M y).map (Value.int .i64))∧Below w.heap.size w wr) (fun _ x _=>(300 - (intOf x).toNat) % 300)
  case atStart=>exact ⟨0,by omega,rfl,World.ownsRow_nil _ _ _ _,Below.refl _ _⟩
  case round =>
    obtain ⟨y,hy,rfl,hown,hbr⟩:=hrel
    by_cases h0:0<zJ M y
    · have hs:=jH h0
      have hN:=za (elemsTo_next h0)
      have hlen:=elemsTo_len M y
      have hsz:=hbr.size
      have h0i:(0:Int)<(zJ M y:Nat):=by omega
      have hs1:=hs.1
      have hs2:=hs.2.1
      clear hs
      generalize hk:zJ M y=k at *
      have HK:=za hk
      clear hk
      go_wp2_with (first|(at_builtin;refine wpList_append_own _ rfl _ _ 25 rfl w.heap.size 3 i0 (.int .i64 0) 1 8 Tryz.underlying25 hi hz0 hz1 hz2 rfl (by decide) _ _ _ rfl (hown.alloc _) ⟨wr.heap.size,0,none⟩ 1 1 [.int .i64 k] rfl rfl (cell_one_new _ _ _) (by simp[Value.oneCell']) (by unfold maxLen;omega) (by omega) (by simp;omega) ?_))
      intro v' w2 hown' hgrow _
      have hb1:Below w.heap.size w w2:=(hbr.alloc hbr.size _).grown hgrow (by simp;omega) (fun j e=>(hown.lt j e).1)
      have hown2:w2.ownsRow w.heap.size 3 1 v' (qI M k).length ((qI M k).map (Value.int .i64)):=by
        rw[hN.out];simpa using hown'
      clear hown' hgrow hown
      go_wp2_with (go_at_call 162;refine (HA.out w2 hb1 k hs2).mono ?_;rintro _ w3 ⟨rfl,rfl⟩)
      go_roundw
      case rel=>exact ⟨k,hs2,rfl,hown2,hb1⟩
      case measure =>
        simp only[intOf,Int.toNat_natCast]
        by_cases e:zJ M k=0
        · rw[e];omega
        · have:=jH (M:=M) (x:=k) (by omega)
          omega
    · have e:zJ M y=0:=by omega
      have hE:=za (elemsTo_last hy e)
      rw[e]
      clear e h0
      go_wp2
      go_ret
      exact ⟨_,rfl,by rw[hE.out];exact hown,hbr⟩
end
end Go.Proofs.YtaadpihbjhachaaGreat
