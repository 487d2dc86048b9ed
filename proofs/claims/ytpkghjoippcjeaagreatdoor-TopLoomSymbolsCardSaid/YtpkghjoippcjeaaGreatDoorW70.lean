/- Texts J228 to J233 of this proof, in one file. -/
import Derived.Test.YtpkghjoippcjeaaGreatDoorW69
namespace Go.Proofs.YtpkghjoippcjeaaGreatDoor
set_option maxRecDepth 100000
set_option maxHeartbeats 16000000
section
open Go Go.RowKit Go.Maps
attribute [local go_sem] over_cell
attribute [local go_sem] Oper.semAt_some
theorem cwhenF_c (e:Int) (w:World):Calls Tryz.prog 18 #[.bool false,.int .i64 e] w fun r w'=>r = .returned (.int .i64 0)∧w=w':=cwhen_c false e w
theorem cfirst00_c (w:World):Calls Tryz.prog 17 #[.slice (some ⟨w.heap.size,0,none⟩) 2 2] (w.alloc (.cells #[.int .i64 0,.int .i64 0] 32)) fun e w'=>e = .returned (.int .i64 0)∧w.alloc (.cells #[.int .i64 0,.int .i64 0] 32)=w':=cfirst_c (some ⟨w.heap.size,0,none⟩) 2 2 [0,0] (w.alloc (.cells #[.int .i64 0,.int .i64 0] 32)) (IC.new2 w 0 0 32)
theorem csum1_c (w:World):Calls Tryz.prog 34 #[.int .i64 1] w fun e w'=>e = .returned (.int .i64 0)∧Below w.heap.size w w':=by
 have HFI:=Lib.hid (fun W=>cfirst00_c W)
 go_enter Tryz.func34,Tryz.ntmps34
 go_wp2_with (first|(go_at_call 18;refine (cwhenF_c _ _).mono ?_;rintro _ w2 ⟨rfl,rfl⟩)|(go_at_call 17;refine (HFI.out _).mono ?_;rintro _ w4 ⟨rfl,rfl⟩)|fail)
 refine bodyPost_ret (v := .int .i64 0) ?_ rfl ⟨rfl,(Below.refl _ _).alloc (Nat.le_refl _) _⟩
 simp[results,Tryz.f34,go_sem]
theorem st12_q {W:World} {b:Nat} {f g:Nat→Int} {T:TypeId} (h:W.heap[b]?=some (.cells #[.int .i64 (f 0),.int .i64 (f 1),.int .i64 (f 2),.int .i64 (f 3),.int .i64 (f 4),.int .i64 (f 5),.int .i64 (f 6),.int .i64 (f 7),.int .i64 (f 8),.int .i64 (f 9),.int .i64 (f 10),.int .i64 (f 11)] T (0,0))):(((((((((((((W.setCell ⟨b,0,none⟩ (.int .i64 (g 0))).setCell ⟨b,1,none⟩ (.int .i64 (g 1))).setCell ⟨b,2,none⟩ (.int .i64 (g 2))).setCell ⟨b,3,none⟩ (.int .i64 (g 3))).setCell ⟨b,4,none⟩ (.int .i64 (g 4))).setCell ⟨b,5,none⟩ (.int .i64 (g 5))).setCell ⟨b,6,none⟩ (.int .i64 (g 6))).setCell ⟨b,7,none⟩ (.int .i64 (g 7))).setCell ⟨b,8,none⟩ (.int .i64 (g 8))).setCell ⟨b,9,none⟩ (.int .i64 (g 9))).setCell ⟨b,10,none⟩ (.int .i64 (g 10))).setCell ⟨b,11,none⟩ (.int .i64 (g 11)))).heap[b]?=some (.cells #[.int .i64 (g 0),.int .i64 (g 1),.int .i64 (g 2),.int .i64 (g 3),.int .i64 (g 4),.int .i64 (g 5),.int .i64 (g 6),.int .i64 (g 7),.int .i64 (g 8),.int .i64 (g 9),.int .i64 (g 10),.int .i64 (g 11)] T (0,0)):=by
 have h0:=q_set (i:=0) h (.int .i64 (g 0))
 rw[v12_set _ (by omega)] at h0
 have h1:=q_set (i:=1) h0 (.int .i64 (g 1))
 rw[v12_set _ (by omega)] at h1
 have h2:=q_set (i:=2) h1 (.int .i64 (g 2))
 rw[v12_set _ (by omega)] at h2
 have h3:=q_set (i:=3) h2 (.int .i64 (g 3))
 rw[v12_set _ (by omega)] at h3
 have h4:=q_set (i:=4) h3 (.int .i64 (g 4))
 rw[v12_set _ (by omega)] at h4
 have h5:=q_set (i:=5) h4 (.int .i64 (g 5))
 rw[v12_set _ (by omega)] at h5
 have h6:=q_set (i:=6) h5 (.int .i64 (g 6))
 rw[v12_set _ (by omega)] at h6
 have h7:=q_set (i:=7) h6 (.int .i64 (g 7))
 rw[v12_set _ (by omega)] at h7
 have h8:=q_set (i:=8) h7 (.int .i64 (g 8))
 rw[v12_set _ (by omega)] at h8
 have h9:=q_set (i:=9) h8 (.int .i64 (g 9))
 rw[v12_set _ (by omega)] at h9
 have h10:=q_set (i:=10) h9 (.int .i64 (g 10))
 rw[v12_set _ (by omega)] at h10
 have h11:=q_set (i:=11) h10 (.int .i64 (g 11))
 rw[v12_set _ (by omega)] at h11
 exact h11
theorem st12_b {W w:World} {b B:Nat} {g:Nat→Int} (hb:Below B w W) (hB:B≤b):Below B w (((((((((((((W.setCell ⟨b,0,none⟩ (.int .i64 (g 0))).setCell ⟨b,1,none⟩ (.int .i64 (g 1))).setCell ⟨b,2,none⟩ (.int .i64 (g 2))).setCell ⟨b,3,none⟩ (.int .i64 (g 3))).setCell ⟨b,4,none⟩ (.int .i64 (g 4))).setCell ⟨b,5,none⟩ (.int .i64 (g 5))).setCell ⟨b,6,none⟩ (.int .i64 (g 6))).setCell ⟨b,7,none⟩ (.int .i64 (g 7))).setCell ⟨b,8,none⟩ (.int .i64 (g 8))).setCell ⟨b,9,none⟩ (.int .i64 (g 9))).setCell ⟨b,10,none⟩ (.int .i64 (g 10))).setCell ⟨b,11,none⟩ (.int .i64 (g 11)))):=((((((((((((hb.setCell (p:=⟨b,0,none⟩) hB _).setCell (p:=⟨b,1,none⟩) hB _).setCell (p:=⟨b,2,none⟩) hB _).setCell (p:=⟨b,3,none⟩) hB _).setCell (p:=⟨b,4,none⟩) hB _).setCell (p:=⟨b,5,none⟩) hB _).setCell (p:=⟨b,6,none⟩) hB _).setCell (p:=⟨b,7,none⟩) hB _).setCell (p:=⟨b,8,none⟩) hB _).setCell (p:=⟨b,9,none⟩) hB _).setCell (p:=⟨b,10,none⟩) hB _).setCell (p:=⟨b,11,none⟩) hB _)
theorem f12_of {W:World} {b:Nat} {f:Nat→Int} {T:TypeId} (h:W.heap[b]?=some (.cells #[.int .i64 (f 0),.int .i64 (f 1),.int .i64 (f 2),.int .i64 (f 3),.int .i64 (f 4),.int .i64 (f 5),.int .i64 (f 6),.int .i64 (f 7),.int .i64 (f 8),.int .i64 (f 9),.int .i64 (f 10),.int .i64 (f 11)] T (0,0))):W.frozen? ⟨b,0,none⟩=false∧W.frozen? ⟨b,1,none⟩=false∧W.frozen? ⟨b,2,none⟩=false∧W.frozen? ⟨b,3,none⟩=false∧W.frozen? ⟨b,4,none⟩=false∧W.frozen? ⟨b,5,none⟩=false∧W.frozen? ⟨b,6,none⟩=false∧W.frozen? ⟨b,7,none⟩=false∧W.frozen? ⟨b,8,none⟩=false∧W.frozen? ⟨b,9,none⟩=false∧W.frozen? ⟨b,10,none⟩=false∧W.frozen? ⟨b,11,none⟩=false:=⟨q_free h 0,q_free h 1,q_free h 2,q_free h 3,q_free h 4,q_free h 5,q_free h 6,q_free h 7,q_free h 8,q_free h 9,q_free h 10,q_free h 11⟩
def oneK (k i:Nat):Int:=if i<k then 1 else 0
theorem oneK_set {k:Nat}:updF (oneK k) k 1=oneK (k+1):=by
 funext i
 by_cases e:i=k
 ·subst e;rw[updF_same];unfold oneK;rw[if_pos (Nat.lt_succ_self _)]
 ·rw[updF_other _ _ e]
  unfold oneK
  by_cases h:i<k
  ·rw[if_pos h,if_pos (by omega)]
  ·rw[if_neg h,if_neg (by omega)]
theorem cstart3_c (a:Option Addr) (ca:Nat) (w:World) (h:RC w a 6 semi3) :
  Calls Tryz.prog 55 #[.agg #[.int .i64 9,.slice a 6 ca],.int .i64 1,.int .i64 0] w fun e w'=>e = .returned (.tuple #[.agg #[.int .i64 (one6 0),.int .i64 (one6 1),.int .i64 (one6 2),.int .i64 (one6 3),.int .i64 (one6 4),.int .i64 (one6 5),.int .i64 (one6 6),.int .i64 (one6 7),.int .i64 (one6 8),.int .i64 (one6 9),.int .i64 (one6 10),.int .i64 (one6 11)],.bool true])∧Below w.heap.size w w':=by
 have HRC:=Lib.hid h
 clear h
 go_enter Tryz.func55,Tryz.ntmps55
 go_upto_region 2 with fail
 have fsz:(((w.alloc (.cells #[.int .i64 9,.slice a 6 ca] 44)).alloc (.cells #[.int .i64 ((fun _=>(0:Int)) 0),.int .i64 ((fun _=>(0:Int)) 1),.int .i64 ((fun _=>(0:Int)) 2),.int .i64 ((fun _=>(0:Int)) 3),.int .i64 ((fun _=>(0:Int)) 4),.int .i64 ((fun _=>(0:Int)) 5),.int .i64 ((fun _=>(0:Int)) 6),.int .i64 ((fun _=>(0:Int)) 7),.int .i64 ((fun _=>(0:Int)) 8),.int .i64 ((fun _=>(0:Int)) 9),.int .i64 ((fun _=>(0:Int)) 10),.int .i64 ((fun _=>(0:Int)) 11)] 90)).alloc (.cells #[.int .i64 ((fun _=>(0:Int)) 0),.int .i64 ((fun _=>(0:Int)) 1),.int .i64 ((fun _=>(0:Int)) 2),.int .i64 ((fun _=>(0:Int)) 3),.int .i64 ((fun _=>(0:Int)) 4),.int .i64 ((fun _=>(0:Int)) 5),.int .i64 ((fun _=>(0:Int)) 6),.int .i64 ((fun _=>(0:Int)) 7),.int .i64 ((fun _=>(0:Int)) 8),.int .i64 ((fun _=>(0:Int)) 9),.int .i64 ((fun _=>(0:Int)) 10),.int .i64 ((fun _=>(0:Int)) 11)] 90)).heap.size=w.heap.size+3:=by simp only[World.size_alloc] <;> omega
 have fB:Below w.heap.size w (((w.alloc (.cells #[.int .i64 9,.slice a 6 ca] 44)).alloc (.cells #[.int .i64 ((fun _=>(0:Int)) 0),.int .i64 ((fun _=>(0:Int)) 1),.int .i64 ((fun _=>(0:Int)) 2),.int .i64 ((fun _=>(0:Int)) 3),.int .i64 ((fun _=>(0:Int)) 4),.int .i64 ((fun _=>(0:Int)) 5),.int .i64 ((fun _=>(0:Int)) 6),.int .i64 ((fun _=>(0:Int)) 7),.int .i64 ((fun _=>(0:Int)) 8),.int .i64 ((fun _=>(0:Int)) 9),.int .i64 ((fun _=>(0:Int)) 10),.int .i64 ((fun _=>(0:Int)) 11)] 90)).alloc (.cells #[.int .i64 ((fun _=>(0:Int)) 0),.int .i64 ((fun _=>(0:Int)) 1),.int .i64 ((fun _=>(0:Int)) 2),.int .i64 ((fun _=>(0:Int)) 3),.int .i64 ((fun _=>(0:Int)) 4),.int .i64 ((fun _=>(0:Int)) 5),.int .i64 ((fun _=>(0:Int)) 6),.int .i64 ((fun _=>(0:Int)) 7),.int .i64 ((fun _=>(0:Int)) 8),.int .i64 ((fun _=>(0:Int)) 9),.int .i64 ((fun _=>(0:Int)) 10),.int .i64 ((fun _=>(0:Int)) 11)] 90)):=(((Below.refl _ _).alloc (Nat.le_refl _) _).alloc (by simp only[World.size_alloc];omega) _).alloc (by simp only[World.size_alloc];omega) _
 have fq0:(((w.alloc (.cells #[.int .i64 9,.slice a 6 ca] 44)).alloc (.cells #[.int .i64 ((fun _=>(0:Int)) 0),.int .i64 ((fun _=>(0:Int)) 1),.int .i64 ((fun _=>(0:Int)) 2),.int .i64 ((fun _=>(0:Int)) 3),.int .i64 ((fun _=>(0:Int)) 4),.int .i64 ((fun _=>(0:Int)) 5),.int .i64 ((fun _=>(0:Int)) 6),.int .i64 ((fun _=>(0:Int)) 7),.int .i64 ((fun _=>(0:Int)) 8),.int .i64 ((fun _=>(0:Int)) 9),.int .i64 ((fun _=>(0:Int)) 10),.int .i64 ((fun _=>(0:Int)) 11)] 90)).alloc (.cells #[.int .i64 ((fun _=>(0:Int)) 0),.int .i64 ((fun _=>(0:Int)) 1),.int .i64 ((fun _=>(0:Int)) 2),.int .i64 ((fun _=>(0:Int)) 3),.int .i64 ((fun _=>(0:Int)) 4),.int .i64 ((fun _=>(0:Int)) 5),.int .i64 ((fun _=>(0:Int)) 6),.int .i64 ((fun _=>(0:Int)) 7),.int .i64 ((fun _=>(0:Int)) 8),.int .i64 ((fun _=>(0:Int)) 9),.int .i64 ((fun _=>(0:Int)) 10),.int .i64 ((fun _=>(0:Int)) 11)] 90)).heap[w.heap.size]?=some (.cells #[.int .i64 9,.slice a 6 ca] 44 (0,0)):=by have h:=World.alloc_heap_new w (.cells #[.int .i64 9,.slice a 6 ca] 44);exact (Below.heap_alloc _ _ _ (by simp only[World.size_alloc];omega)).trans ((Below.heap_alloc _ _ _ (by simp only[World.size_alloc];omega)).trans (h))
 have fq1:(((w.alloc (.cells #[.int .i64 9,.slice a 6 ca] 44)).alloc (.cells #[.int .i64 ((fun _=>(0:Int)) 0),.int .i64 ((fun _=>(0:Int)) 1),.int .i64 ((fun _=>(0:Int)) 2),.int .i64 ((fun _=>(0:Int)) 3),.int .i64 ((fun _=>(0:Int)) 4),.int .i64 ((fun _=>(0:Int)) 5),.int .i64 ((fun _=>(0:Int)) 6),.int .i64 ((fun _=>(0:Int)) 7),.int .i64 ((fun _=>(0:Int)) 8),.int .i64 ((fun _=>(0:Int)) 9),.int .i64 ((fun _=>(0:Int)) 10),.int .i64 ((fun _=>(0:Int)) 11)] 90)).alloc (.cells #[.int .i64 ((fun _=>(0:Int)) 0),.int .i64 ((fun _=>(0:Int)) 1),.int .i64 ((fun _=>(0:Int)) 2),.int .i64 ((fun _=>(0:Int)) 3),.int .i64 ((fun _=>(0:Int)) 4),.int .i64 ((fun _=>(0:Int)) 5),.int .i64 ((fun _=>(0:Int)) 6),.int .i64 ((fun _=>(0:Int)) 7),.int .i64 ((fun _=>(0:Int)) 8),.int .i64 ((fun _=>(0:Int)) 9),.int .i64 ((fun _=>(0:Int)) 10),.int .i64 ((fun _=>(0:Int)) 11)] 90)).heap[w.heap.size+1]?=some (.cells #[.int .i64 ((fun _=>(0:Int)) 0),.int .i64 ((fun _=>(0:Int)) 1),.int .i64 ((fun _=>(0:Int)) 2),.int .i64 ((fun _=>(0:Int)) 3),.int .i64 ((fun _=>(0:Int)) 4),.int .i64 ((fun _=>(0:Int)) 5),.int .i64 ((fun _=>(0:Int)) 6),.int .i64 ((fun _=>(0:Int)) 7),.int .i64 ((fun _=>(0:Int)) 8),.int .i64 ((fun _=>(0:Int)) 9),.int .i64 ((fun _=>(0:Int)) 10),.int .i64 ((fun _=>(0:Int)) 11)] 90 (0,0)):=by have h:=World.alloc_heap_new (w.alloc (.cells #[.int .i64 9,.slice a 6 ca] 44)) (.cells #[.int .i64 ((fun _=>(0:Int)) 0),.int .i64 ((fun _=>(0:Int)) 1),.int .i64 ((fun _=>(0:Int)) 2),.int .i64 ((fun _=>(0:Int)) 3),.int .i64 ((fun _=>(0:Int)) 4),.int .i64 ((fun _=>(0:Int)) 5),.int .i64 ((fun _=>(0:Int)) 6),.int .i64 ((fun _=>(0:Int)) 7),.int .i64 ((fun _=>(0:Int)) 8),.int .i64 ((fun _=>(0:Int)) 9),.int .i64 ((fun _=>(0:Int)) 10),.int .i64 ((fun _=>(0:Int)) 11)] 90);simp only[World.size_alloc] at h;exact (Below.heap_alloc _ _ _ (by simp only[World.size_alloc];omega)).trans (h)
 have fq2:(((w.alloc (.cells #[.int .i64 9,.slice a 6 ca] 44)).alloc (.cells #[.int .i64 ((fun _=>(0:Int)) 0),.int .i64 ((fun _=>(0:Int)) 1),.int .i64 ((fun _=>(0:Int)) 2),.int .i64 ((fun _=>(0:Int)) 3),.int .i64 ((fun _=>(0:Int)) 4),.int .i64 ((fun _=>(0:Int)) 5),.int .i64 ((fun _=>(0:Int)) 6),.int .i64 ((fun _=>(0:Int)) 7),.int .i64 ((fun _=>(0:Int)) 8),.int .i64 ((fun _=>(0:Int)) 9),.int .i64 ((fun _=>(0:Int)) 10),.int .i64 ((fun _=>(0:Int)) 11)] 90)).alloc (.cells #[.int .i64 ((fun _=>(0:Int)) 0),.int .i64 ((fun _=>(0:Int)) 1),.int .i64 ((fun _=>(0:Int)) 2),.int .i64 ((fun _=>(0:Int)) 3),.int .i64 ((fun _=>(0:Int)) 4),.int .i64 ((fun _=>(0:Int)) 5),.int .i64 ((fun _=>(0:Int)) 6),.int .i64 ((fun _=>(0:Int)) 7),.int .i64 ((fun _=>(0:Int)) 8),.int .i64 ((fun _=>(0:Int)) 9),.int .i64 ((fun _=>(0:Int)) 10),.int .i64 ((fun _=>(0:Int)) 11)] 90)).heap[w.heap.size+1+1]?=some (.cells #[.int .i64 ((fun _=>(0:Int)) 0),.int .i64 ((fun _=>(0:Int)) 1),.int .i64 ((fun _=>(0:Int)) 2),.int .i64 ((fun _=>(0:Int)) 3),.int .i64 ((fun _=>(0:Int)) 4),.int .i64 ((fun _=>(0:Int)) 5),.int .i64 ((fun _=>(0:Int)) 6),.int .i64 ((fun _=>(0:Int)) 7),.int .i64 ((fun _=>(0:Int)) 8),.int .i64 ((fun _=>(0:Int)) 9),.int .i64 ((fun _=>(0:Int)) 10),.int .i64 ((fun _=>(0:Int)) 11)] 90 (0,0)):=by have h:=World.alloc_heap_new ((w.alloc (.cells #[.int .i64 9,.slice a 6 ca] 44)).alloc (.cells #[.int .i64 ((fun _=>(0:Int)) 0),.int .i64 ((fun _=>(0:Int)) 1),.int .i64 ((fun _=>(0:Int)) 2),.int .i64 ((fun _=>(0:Int)) 3),.int .i64 ((fun _=>(0:Int)) 4),.int .i64 ((fun _=>(0:Int)) 5),.int .i64 ((fun _=>(0:Int)) 6),.int .i64 ((fun _=>(0:Int)) 7),.int .i64 ((fun _=>(0:Int)) 8),.int .i64 ((fun _=>(0:Int)) 9),.int .i64 ((fun _=>(0:Int)) 10),.int .i64 ((fun _=>(0:Int)) 11)] 90)) (.cells #[.int .i64 ((fun _=>(0:Int)) 0),.int .i64 ((fun _=>(0:Int)) 1),.int .i64 ((fun _=>(0:Int)) 2),.int .i64 ((fun _=>(0:Int)) 3),.int .i64 ((fun _=>(0:Int)) 4),.int .i64 ((fun _=>(0:Int)) 5),.int .i64 ((fun _=>(0:Int)) 6),.int .i64 ((fun _=>(0:Int)) 7),.int .i64 ((fun _=>(0:Int)) 8),.int .i64 ((fun _=>(0:Int)) 9),.int .i64 ((fun _=>(0:Int)) 10),.int .i64 ((fun _=>(0:Int)) 11)] 90);simp only[World.size_alloc] at h;exact h
 generalize (((w.alloc (.cells #[.int .i64 9,.slice a 6 ca] 44)).alloc (.cells #[.int .i64 ((fun _=>(0:Int)) 0),.int .i64 ((fun _=>(0:Int)) 1),.int .i64 ((fun _=>(0:Int)) 2),.int .i64 ((fun _=>(0:Int)) 3),.int .i64 ((fun _=>(0:Int)) 4),.int .i64 ((fun _=>(0:Int)) 5),.int .i64 ((fun _=>(0:Int)) 6),.int .i64 ((fun _=>(0:Int)) 7),.int .i64 ((fun _=>(0:Int)) 8),.int .i64 ((fun _=>(0:Int)) 9),.int .i64 ((fun _=>(0:Int)) 10),.int .i64 ((fun _=>(0:Int)) 11)] 90)).alloc (.cells #[.int .i64 ((fun _=>(0:Int)) 0),.int .i64 ((fun _=>(0:Int)) 1),.int .i64 ((fun _=>(0:Int)) 2),.int .i64 ((fun _=>(0:Int)) 3),.int .i64 ((fun _=>(0:Int)) 4),.int .i64 ((fun _=>(0:Int)) 5),.int .i64 ((fun _=>(0:Int)) 6),.int .i64 ((fun _=>(0:Int)) 7),.int .i64 ((fun _=>(0:Int)) 8),.int .i64 ((fun _=>(0:Int)) 9),.int .i64 ((fun _=>(0:Int)) 10),.int .i64 ((fun _=>(0:Int)) 11)] 90))=W0 at fsz fB fq0 fq1 fq2 ⊢
 have c0:W0.cell? ⟨w.heap.size,1,none⟩=some (.slice a 6 ca):=q_cell fq0 1
 have l0:=q_lt fq0
 obtain ⟨bn,hbn⟩:∃bn,w.heap.size+1+1=bn:=⟨_,rfl⟩
 obtain ⟨br,hbr⟩:∃br,w.heap.size+1=br:=⟨_,rfl⟩
 rw[hbn] at fq2 ⊢
 rw[hbr] at fq1 ⊢
 have hb1:w.heap.size<br∧br<bn:=by omega
 have F1:Hid (W0.heap[br]?=some (.cells #[.int .i64 (oneK 0 0),.int .i64 (oneK 0 1),.int .i64 (oneK 0 2),.int .i64 (oneK 0 3),.int .i64 (oneK 0 4),.int .i64 (oneK 0 5),.int .i64 (oneK 0 6),.int .i64 (oneK 0 7),.int .i64 (oneK 0 8),.int .i64 (oneK 0 9),.int .i64 (oneK 0 10),.int .i64 (oneK 0 11)] 90 (0,0))):=fq1
 have F2:Hid (W0.heap[bn]?=some (.cells #[.int .i64 (oneK 0 0),.int .i64 (oneK 0 1),.int .i64 (oneK 0 2),.int .i64 (oneK 0 3),.int .i64 (oneK 0 4),.int .i64 (oneK 0 5),.int .i64 (oneK 0 6),.int .i64 (oneK 0 7),.int .i64 (oneK 0 8),.int .i64 (oneK 0 9),.int .i64 (oneK 0 10),.int .i64 (oneK 0 11)] 90 (0,0))):=fq2
 have FB:=Lib.hid fB
 clear fq0 fq1 fq2 fsz fB hbn hbr
 go_wp2_with fail
 clear c0 l0
 go_loopw [9,10,14] (fun _ _ s14 wr=>∃k:Nat,k≤6∧s14 = .int .i64 (k:Int)∧Hid (wr.heap[bn]?=some (.cells #[.int .i64 (oneK k 0),.int .i64 (oneK k 1),.int .i64 (oneK k 2),.int .i64 (oneK k 3),.int .i64 (oneK k 4),.int .i64 (oneK k 5),.int .i64 (oneK k 6),.int .i64 (oneK k 7),.int .i64 (oneK k 8),.int .i64 (oneK k 9),.int .i64 (oneK k 10),.int .i64 (oneK k 11)] 90 (0,0)))∧Hid (wr.heap[br]?=some (.cells #[.int .i64 (oneK 0 0),.int .i64 (oneK 0 1),.int .i64 (oneK 0 2),.int .i64 (oneK 0 3),.int .i64 (oneK 0 4),.int .i64 (oneK 0 5),.int .i64 (oneK 0 6),.int .i64 (oneK 0 7),.int .i64 (oneK 0 8),.int .i64 (oneK 0 9),.int .i64 (oneK 0 10),.int .i64 (oneK 0 11)] 90 (0,0)))∧Hid (Below w.heap.size w wr)) (fun _ _ s14 _=>6 - (intOf s14).toNat)
 case atStart=>exact ⟨0,by omega,rfl,F2,F1,FB⟩
 case round =>
  obtain ⟨k,hk,rfl,hN,hR,hB⟩:=hrel
  clear F1 F2 FB
  by_cases hlt:k<6
  ·have hki:(k:Int)<6:=by omega
   have hk12:(k:Int)<12:=by omega
   obtain ⟨b,off,a',n',c',rfl,hbl,hc,_,_⟩:=(HRC.out.mono hB.out).2 k hlt
   obtain ⟨v0,d1⟩:∃v,wr.cell? ⟨bn,k,none⟩=some v:=⟨_,(q_cell hN.out k).trans (v12_get _ (by omega))⟩
   have d2:=q_free hN.out k
   have d3:=q_lt hN.out
   have hq:=q_set (i:=k) hN.out (.int .i64 1)
   rw[v12_set _ (by omega),oneK_set] at hq
   have HQ:=Lib.hid hq
   have HR:=Lib.hid (q_other (i:=k) hR.out (show br≠bn by omega) (.int .i64 1))
   have HBN:=Lib.hid (hB.out.setCell (p:=⟨bn,k,none⟩) (by show w.heap.size≤bn;omega) (.int .i64 1))
   clear hq
   go_wp2_with fail
   exact ⟨⟨k+1,by omega,by go_num,HQ,HR,HBN⟩,by simp[intOf];omega⟩
  ·have e:k=6:=by omega
   subst e
   obtain ⟨g0,g1,g2,g3,g4,g5,g6,g7,g8,g9,g10,g11,gl⟩:=c12_of hN.out
   obtain ⟨y0,y1,y2,y3,y4,y5,y6,y7,y8,y9,y10,y11,yl⟩:=c12_of hR.out
   obtain ⟨z0,z1,z2,z3,z4,z5,z6,z7,z8,z9,z10,z11⟩:=f12_of hR.out
   have HST:=Lib.hid (st12_q (g:=oneK 6) hR.out)
   have HSB:=Lib.hid (st12_b (b:=br) (g:=oneK 6) hB.out (by omega))
   clear hN hR hB
   go_wp2_with fail
   clear g0 g1 g2 g3 g4 g5 g6 g7 g8 g9 g10 g11 gl y0 y1 y2 y3 y4 y5 y6 y7 y8 y9 y10 y11 yl z0 z1 z2 z3 z4 z5 z6 z7 z8 z9 z10 z11
   obtain ⟨d0,d1,d2,d3,d4,d5,d6,d7,d8,d9,d10,d11,_⟩:=c12_of HST.out
   refine bodyPost_ret (v := .tuple #[.agg #[.int .i64 (oneK 6 0),.int .i64 (oneK 6 1),.int .i64 (oneK 6 2),.int .i64 (oneK 6 3),.int .i64 (oneK 6 4),.int .i64 (oneK 6 5),.int .i64 (oneK 6 6),.int .i64 (oneK 6 7),.int .i64 (oneK 6 8),.int .i64 (oneK 6 9),.int .i64 (oneK 6 10),.int .i64 (oneK 6 11)],.bool true]) ?_ rfl ⟨rfl,HSB.out⟩
   simp[results,Tryz.f55,go_sem,d0,d1,d2,d3,d4,d5,d6,d7,d8,d9,d10,d11]
end
section
open Go Go.RowKit Go.Maps
attribute [local go_sem] over_cell
attribute [local go_sem] Oper.semAt_some
theorem infoBoolC:(Tryz.prog.info? 4).map (fun i=>(i.zero,i.size,i.bytes))=some (some (.bool false),1,1):=by kernel_rfl
theorem sysErr3:sysErr 9 semi3=0:=by decide +kernel
theorem csys3_c (a:Option Addr) (ca:Nat) (w:World) (h:RC w a 6 semi3) (hc:6≤ca):Calls Tryz.prog 53 #[.agg #[.int .i64 9,.slice a 6 ca]] w fun e w'=>e = .returned (.int .i64 0)∧Below w.heap.size w w':=by
 have:=sys_c a 6 ca semi3 9 w h hc
 rw[sysErr3] at this
 exact this
theorem cfirst000_c (w:World):Calls Tryz.prog 17 #[.slice (some ⟨w.heap.size,0,none⟩) 3 3] (w.alloc (.cells #[.int .i64 0,.int .i64 0,.int .i64 0] 32)) fun e w'=>e = .returned (.int .i64 0)∧w.alloc (.cells #[.int .i64 0,.int .i64 0,.int .i64 0] 32)=w':=cfirst_c (some ⟨w.heap.size,0,none⟩) 3 3 [0,0,0] (w.alloc (.cells #[.int .i64 0,.int .i64 0,.int .i64 0] 32)) (IC.new3 w 0 0 0 32)
def usedU (i j:Nat):List Bool:=(List.range 9).map fun (c:Nat)=>(semi3.take i).any (fun l=>l.contains (c:Int))||((semi3[i]?.getD []).take j).contains (c:Int)
theorem usedU_set:∀i,i<6→∀j,j<3→(usedU i j).set ((semi3[i]?.getD [])[j]?.getD 0).toNat true=usedU i (j+1):=by decide +kernel
theorem usedU_next:∀i,i<6→usedU i 3=usedU (i+1) 0:=by decide +kernel
theorem usedU_zero:usedU 0 0=List.replicate 9 false:=by decide +kernel
theorem usedU_end:usedU 6 0=List.replicate 9 true:=by decide +kernel
theorem semi3_num:∀i,i<6→(semi3[i]?.getD []).length=3∧∀j,j<3→0≤(semi3[i]?.getD [])[j]?.getD 0∧(semi3[i]?.getD [])[j]?.getD 0<9:=by decide
theorem bindexT_c (B g n cap:Nat) (w:World) (h:BI w B g n cap (List.replicate n true)) (hn:n≤1000) :
  Calls Tryz.prog 69 #[.slice (some ⟨g,0,none⟩) n cap,.bool false] w fun e w'=>e = .returned (.int .i64 (-1))∧w=w':=by
 have H:=Lib.hid h
 clear h
 go_enter Tryz.func69,Tryz.ntmps69
 go_wp2
 go_loop [5,8] (fun _ i=>∃k:Nat,k≤n∧i = .int .i64 k) (fun _ i=>n - (intOf i).toNat)
 case atStart=>exact ⟨0,by omega,rfl⟩
 case round =>
  obtain ⟨k,hk,rfl⟩:=hrel
  by_cases hlt:k<n
  ·obtain ⟨p1,p2,p3⟩:=H.out.at hlt
   rw[List.getElem?_replicate,if_pos hlt,Option.getD_some] at p1
   go_wp2
   go_round
   case rel=>exact ⟨k+1,by omega,by go_num⟩
   case measure=>simp[intOf];omega
  ·have e:k=n:=by omega
   subst e
   go_wp2
   go_ret
   exact ⟨rfl,rfl⟩
theorem bcontT_c (B g n cap:Nat) (w:World) (h:BI w B g n cap (List.replicate n true)) (hn:n≤1000) :
  Calls Tryz.prog 54 #[.slice (some ⟨g,0,none⟩) n cap,.bool false] w fun e w'=>e = .returned (.bool false)∧w=w':=by
 have HI:=Lib.hid (bindexT_c B g n cap w h hn)
 clear h
 go_enter Tryz.func54,Tryz.ntmps54
 go_wp2_with (go_at_call 69;refine HI.out.mono ?_;rintro e w1 ⟨rfl,rfl⟩)
 go_ret
 exact ⟨rfl,rfl⟩
theorem ccone3_c (a:Option Addr) (ca:Nat) (w:World) (h:RC w a 6 semi3) (hcap:6≤ca) :
  Calls Tryz.prog 33 #[.agg #[.int .i64 9,.slice a 6 ca]] w fun e w'=>e = .returned (.int .i64 0)∧Below w.heap.size w w':=by
 have HRC:=Lib.hid h
 have HSY:=Lib.hid (fun W (hb:Below w.heap.size w W)=>csys3_c a ca W (h.mono hb) hcap)
 have HFI:=Lib.hid (fun W=>cfirst000_c W)
 clear h
 go_enter Tryz.func33,Tryz.ntmps33
 go_upto_region 1 with fail
 have fsz:(w.alloc (.cells #[.int .i64 9,.slice a 6 ca] 44)).heap.size=w.heap.size+1:=by simp only[World.size_alloc]
 have fB:Below w.heap.size w (w.alloc (.cells #[.int .i64 9,.slice a 6 ca] 44)):=(Below.refl _ _).alloc (Nat.le_refl _) _
 have fq0:(w.alloc (.cells #[.int .i64 9,.slice a 6 ca] 44)).heap[w.heap.size]?=some (.cells #[.int .i64 9,.slice a 6 ca] 44 (0,0)):=by have h:=World.alloc_heap_new w (.cells #[.int .i64 9,.slice a 6 ca] 44);exact h
 generalize (w.alloc (.cells #[.int .i64 9,.slice a 6 ca] 44))=W0 at fsz fB fq0 ⊢
 have c0:W0.cell? ⟨w.heap.size,0,none⟩=some (.int .i64 9):=q_cell fq0 0
 have c1:W0.cell? ⟨w.heap.size,1,none⟩=some (.slice a 6 ca):=q_cell fq0 1
 have l0:=q_lt fq0
 have FB:=Lib.hid fB
 have Q0:=Lib.hid fq0
 clear fq0 fsz fB
 refine wp_region_S (fun w'=>∃u,w'=over (W0) u) [19,18,17,16] [(0,0),(0,2),(0,3),(0,4),(0,12),(0,13),(0,14),(0,15),(1,1),(0,5),(0,6),(0,7),(0,8),(0,9),(0,10),(1,11),(2,16),(2,17),(2,18),(2,19)] (by kernel_rfl) (by kernel_rfl) (by exact ⟨_,below_over (by repeat (first|assumption|exact Below.refl _ _|refine keep_drew ?_|refine keep_alloc ?_ _|refine keep_trans ?_ (by assumption)))⟩) ?_
 dsimp only[pickOps,nthOp]
 repeat (first|(refine wpS_skip rfl (fun K hK=>?_);go_big_quiet_op;refine hK _ ?_;clear hK K)|(refine wpS_quiet rfl rfl (fun K hK=>?_);go_big_quiet_op;refine hK _ ?_;clear hK K)|(refine wpS_loud ?_;go_wp2_with (first|(go_at_call 53;refine (HSY.out _ (keep_trans FB.out (keep_drew (Below.refl _ _)))).mono ?_;rintro _ w1 ⟨rfl,hb1⟩)|(go_at_call 18;refine (cwhenF_c _ _).mono ?_;rintro _ w2 ⟨rfl,rfl⟩)|(go_at_call 17;refine (HFI.out _).mono ?_;rintro _ w4 ⟨rfl,rfl⟩)|fail);refine ⟨?_,?_⟩;focus (exact ⟨_,below_over (by repeat (first|assumption|exact Below.refl _ _|refine keep_drew ?_|refine keep_alloc ?_ _|refine keep_trans ?_ (by assumption)))⟩)))
 refine wpS_late _ _ _ rfl ?_
 dsimp only[List.map]
 go_wp2_with (first|(go_at_call 53;refine (HSY.out _ (keep_trans FB.out (keep_drew (Below.refl _ _)))).mono ?_;rintro _ w1 ⟨rfl,hb1⟩)|(go_at_call 18;refine (cwhenF_c _ _).mono ?_;rintro _ w2 ⟨rfl,rfl⟩)|(go_at_call 17;refine (HFI.out _).mono ?_;rintro _ w4 ⟨rfl,rfl⟩)|fail)
 refine NoPanic.normal ?_
 have hb3:Below W0.heap.size W0 (w1.alloc (.cells #[.int .i64 0,.int .i64 0,.int .i64 0] 32)):=keep_trans (keep_drew (Below.refl W0.heap.size W0)) (keep_trans hb1 ((Below.refl _ _).alloc (Nat.le_refl _) _))
 generalize (w1.alloc (.cells #[.int .i64 0,.int .i64 0,.int .i64 0] 32))=w3 at hb3 ⊢
 have d0:=(hb3.cell (p:=⟨w.heap.size,0,none⟩) l0).trans c0
 have d1:=(hb3.cell (p:=⟨w.heap.size,1,none⟩) l0).trans c1
 have dl:=Nat.lt_of_lt_of_le l0 hb3.size
 have HB3:=Lib.hid (keep_trans FB.out hb3)
 have Q3:=Lib.hid (keepq hb3 Q0.out)
 clear c0 c1 l0 hb3 hb1
 obtain ⟨i0,hi,hz0,hz1,hz2⟩:=info_parts infoBoolC
 go_upto_region 5 with (refine wpList_make_full _ rfl _ _ 73 rfl w3.heap.size 4 i0 (.bool false) 1 Tryz.underlying73 hi hz0 hz1 _ _ _ _ 9 rfl rfl (by simp) (by simp) (by rw[hz2];omega) (by unfold maxLen;omega) (Nat.le_refl _) ?_;intro W4 hown4 hgr4;have hb4:Below w3.heap.size w3 W4:=(Below.refl w3.heap.size w3).grown hgr4 (Nat.le_refl _) (fun k e=>by cases e))
 rw[made_fal 9,← usedU_zero] at hown4
 obtain ⟨g,hg⟩:∃g,w3.heap.size=g:=⟨_,rfl⟩
 have HBI:Hid (BI W4 w.heap.size g 9 9 (usedU 0 0)):=by
  unfold Hid
  rw[← hg]
  exact ⟨rfl,owns_base hown4 HB3.out.size⟩
 have HGE:Hid (w.heap.size<g):=by unfold Hid;rw[← hg];exact dl
 rw[hg]
 have HB4:=Lib.hid (keep_trans HB3.out hb4)
 have e1:=(hb4.cell (p:=⟨w.heap.size,1,none⟩) dl).trans d1
 have el:=Nat.lt_of_lt_of_le dl hb4.size
 clear hg hown4 hgr4 hb4 d0 d1 dl
 go_wp2_with fail
 clear e1 el
 go_loopw [6,8,37] (fun _ _ s37 wr=>∃i:Nat,i≤6∧s37 = .int .i64 (i:Int)∧Hid (BI wr w.heap.size g 9 9 (usedU i 0))∧Hid (Below w.heap.size w wr)) (fun _ _ s37 _=>6 - (intOf s37).toNat)
 case atStart=>exact ⟨0,by omega,rfl,HBI,HB4⟩
 case round =>
  obtain ⟨i,hi6,rfl,hU,hB⟩:=hrel
  clear HBI HB4
  by_cases hlt:i<6
  ·have hii:(i:Int)<6:=by omega
   obtain ⟨b,off,a',n',c',rfl,hbl0,hc0,hic,_⟩:=HRC.out.2 i hlt
   have hc:=(hB.out.cell (p:=⟨b,off+i,none⟩) hbl0).trans hc0
   have hbl:=Nat.lt_of_lt_of_le hbl0 hB.out.size
   clear hc0
   have hnum:=semi3_num i hlt
   have hn':n'=3:=by rw[← hic.len];exact hnum.1
   subst hn'
   have HIC:=Lib.hid hic
   have HNU:=Lib.hid hnum.2
   have HBO:=Lib.hid hB.out
   clear hic hnum
   go_wp2_with fail
   go_loopw [8,43] (fun _ s43 wv=>∃j:Nat,j≤3∧s43 = .int .i64 (j:Int)∧Hid (BI wv w.heap.size g 9 9 (usedU i j))∧Hid (Below g wr wv)) (fun _ s43 _=>3 - (intOf s43).toNat)
   case atStart=>exact ⟨0,by omega,rfl,hU,Below.refl _ _⟩
   case round =>
    obtain ⟨j,hj3,rfl,hU2,hB2⟩:=hrel
    have hgw:w.heap.size≤g:=Nat.le_of_lt HGE.out
    have hBw:Below w.heap.size w wr:=(HBO.out).trans (hB2.out.mono hgw)
    by_cases hlj:j<3
    ·have hji:(j:Int)<3:=by omega
     obtain ⟨b2,off2,rfl,hbl2,hc2⟩:=(HIC.out.mono hBw).2 j hlj
     have h9:=HNU.out j hlj
     have hset:=usedU_set i hlt j hlj
     generalize (semi3[i]?.getD [])[j]?.getD 0=y at hc2 h9 hset
     obtain ⟨t,rfl⟩:∃t:Nat,y=(t:Int):=⟨y.toNat,by omega⟩
     rw[Int.toNat_natCast] at hset
     obtain ⟨p1,p2,p3⟩:=hU2.out.at (k:=t) (by omega)
     have ht9:(t:Int)<9:=by omega
     have HN:=Lib.hid (hU2.out.set t true)
     rw[hset] at HN
     have HBN:=Lib.hid (hB2.out.setCell (p:=⟨g,t,none⟩) (Nat.le_refl _) (.bool true))
     clear hset hBw
     go_wp2_with fail
     go_roundw
     case rel=>exact ⟨j+1,by omega,by go_num,HN,HBN⟩
     case measure=>simp[intOf];omega
    ·have e:j=3:=by omega
     subst e
     have hUN:=hU2.out
     rw[usedU_next i hlt] at hUN
     have HUN:=Lib.hid hUN
     have HBW:=Lib.hid hBw
     clear hUN hBw
     go_wp2_with fail
     go_roundw
     case rel=>exact ⟨i+1,by omega,by go_num,HUN,HBW⟩
     case measure=>simp[intOf];omega
  ·have e:i=6:=by omega
   subst e
   have hU2:=hU.out
   rw[usedU_end] at hU2
   have HCT:=Lib.hid (bcontT_c w.heap.size g 9 9 wr hU2 (by omega))
   clear hU2 hU
   go_wp2_with (first|(go_at_call 54;refine HCT.out.mono ?_;rintro _ w2 ⟨rfl,rfl⟩)|(go_at_call 18;refine (cwhenF_c _ _).mono ?_;rintro _ w2 ⟨rfl,rfl⟩)|fail)
   refine bodyPost_ret (v := .int .i64 0) ?_ rfl ⟨rfl,hB.out⟩
   simp[results,Tryz.f33,go_sem]
end
section
open Go Go.RowKit Go.Maps
structure TE (W:World) (L bt be n:Nat) (R:Nat→Value × List Int):Prop where
 tb:W.ownsRow L 22 1 (.slice (some ⟨bt,0,none⟩) n n) n ((List.range n).map fun i=>(R i).1)
 eb:W.ownsRow L 22 1 (.slice (some ⟨be,0,none⟩) n n) n ((List.range n).map fun i=>(R (n+i)).1)
 row:∀i,i<n+n→W.ownsRow L 3 1 (R i).1 (R i).2.length ((R i).2.map (Value.int .i64))
 sep:∀i k,i<n+n→(R i).1.ownBlock=some k→k≠bt∧k≠be
 inj:∀i j k,i<n+n→j<n+n→i≠j→(R i).1.ownBlock=some k→(R j).1.ownBlock≠some k
 ne:bt≠be
theorem TE.keep {W W':World} {L bt be n:Nat} {R:Nat→Value × List Int} (h:TE W L bt be n R) (hb:Below W.heap.size W W'):TE W' L bt be n R :=
 ⟨owns_keep h.tb (fun k _ hl=>hb.block k hl),owns_keep h.eb (fun k _ hl=>hb.block k hl),fun i hi=>owns_keep (h.row i hi) (fun k _ hl=>hb.block k hl),h.sep,h.inj,h.ne⟩
theorem TE.step {W W':World} {L bt be n:Nat} {R:Nat→Value × List Int} (h:TE W L bt be n R) {i:Nat} (hi:i<n+n) {v':Value} {x:Int}
  (hs:Stays (fun k=>(R i).1.ownBlock=some k) W W') (hown:W'.ownsRow L 3 1 v' ((R i).2.length+1) ((R i).2.map (Value.int .i64)++[.int .i64 x])) (hnew:∀k,v'.ownBlock=some k→(R i).1.ownBlock=some k∨W.heap.size≤k) :
  TE (W'.setCell ⟨if i<n then bt else be,if i<n then i else i - n,none⟩ v') L bt be n (updF R i (v',(R i).2++[x])):=by
 have hbt:bt<W.heap.size:=(h.tb.lt bt rfl).2
 have hbe:be<W.heap.size:=(h.eb.lt be rfl).2
 have hvs:∀k,v'.ownBlock=some k→k≠bt∧k≠be:=fun k e=>(hnew k e).elim (h.sep i k hi) (fun h2=>⟨by omega,by omega⟩)
 have htb:W'.ownsRow L 22 1 (.slice (some ⟨bt,0,none⟩) n n) n ((List.range n).map fun i=>(R i).1):=owns_keep h.tb (fun k e hl=>hs.block k hl (fun e2=>by cases e;exact (h.sep i _ hi e2).1 rfl))
 have heb:W'.ownsRow L 22 1 (.slice (some ⟨be,0,none⟩) n n) n ((List.range n).map fun i=>(R (n+i)).1):=owns_keep h.eb (fun k e hl=>hs.block k hl (fun e2=>by cases e;exact (h.sep i _ hi e2).2 rfl))
 have hrow:∀j,j<n+n→j≠i→W'.ownsRow L 3 1 (R j).1 (R j).2.length ((R j).2.map (Value.int .i64)):=fun j hj hji=>owns_keep (h.row j hj) (fun k e hl=>hs.block k hl (fun e2=>h.inj j i k hj hi hji e e2))
 have hR:∀j,j≠i→updF R i (v',(R i).2++[x]) j=R j:=fun j hj=>updF_other _ _ hj
 have hRi:updF R i (v',(R i).2++[x]) i=(v',(R i).2++[x]):=updF_same _ _ _
 have htab:∀b,(b=bt∨b=be)→∀k,v'.ownBlock=some k→k≠b:=fun b hb k e=>by rcases hb with rfl|rfl;exact (hvs k e).1;exact (hvs k e).2
 refine ⟨?_,?_,fun j hj=>?_,fun j k hj e=>?_,fun j j' k hj hj' hne e=>?_,h.ne⟩
 ·by_cases hin:i<n
  ·rw[if_pos hin,if_pos hin]
   have:=owns_set htb i v'
   rw[rng_set _ hin] at this
   rw[show (List.range n).map (fun j=>(updF R i (v',(R i).2++[x]) j).1)=(List.range n).map (updF (fun j=>(R j).1) i v') from List.map_congr_left fun j _=>by
    by_cases e:j=i
    ·subst e;rw[hRi,updF_same]
    ·rw[hR j e,updF_other _ _ e]]
   exact this
  ·rw[if_neg hin,if_neg hin]
   rw[show (List.range n).map (fun j=>(updF R i (v',(R i).2++[x]) j).1)=(List.range n).map (fun j=>(R j).1) from List.map_congr_left fun j hj=>by
    rw[hR j (by have:=List.mem_range.1 hj;omega)]]
   exact ownsRow_setCell_other htb (a:=⟨be,i - n,none⟩) (fun e=>h.ne (by cases e;rfl)) _
 ·by_cases hin:i<n
  ·rw[if_pos hin,if_pos hin]
   rw[show (List.range n).map (fun j=>(updF R i (v',(R i).2++[x]) (n+j)).1)=(List.range n).map (fun j=>(R (n+j)).1) from List.map_congr_left fun j _=>by
    rw[hR (n+j) (by omega)]]
   exact ownsRow_setCell_other heb (a:=⟨bt,i,none⟩) (fun e=>h.ne (by cases e;rfl)) _
  ·rw[if_neg hin,if_neg hin]
   have:=owns_set heb (i - n) v'
   rw[rng_set _ (by omega)] at this
   rw[show (List.range n).map (fun j=>(updF R i (v',(R i).2++[x]) (n+j)).1)=(List.range n).map (updF (fun j=>(R (n+j)).1) (i - n) v') from List.map_congr_left fun j _=>by
    by_cases e:j=i - n
    ·subst e;rw[updF_same,show n+(i - n)=i by omega,hRi]
    ·rw[hR (n+j) (by omega),updF_other _ _ e]]
   exact this
 ·have hne:∀k,(updF R i (v',(R i).2++[x]) j).1.ownBlock=some k→k≠(if i<n then bt else be):=fun k e=>by
   by_cases e2:j=i
   ·subst e2
    rw[hRi] at e
    exact htab _ (by split <;> simp) k e
   ·rw[hR j e2] at e
    have:=h.sep j k hj e
    split
    ·exact this.1
    ·exact this.2
  refine ownsRow_setCell_other (a:=⟨if i<n then bt else be,if i<n then i else i - n,none⟩) ?_ (fun e=>hne _ e rfl) _
  by_cases e2:j=i
  ·subst e2
   rw[hRi]
   show W'.ownsRow L _ 1 v' ((R j).2++[x]).length (((R j).2++[x]).map (Value.int .i64))
   rw[List.length_append,List.map_append]
   exact hown
  ·rw[hR j e2];exact hrow j hj e2
 ·by_cases e2:j=i
  ·subst e2
   rw[hRi] at e
   exact hvs k e
  ·rw[hR j e2] at e
   exact h.sep j k hj e
 ·by_cases e2:j=i
  ·subst e2
   rw[hRi] at e
   rw[hR j' (fun e3=>hne e3.symm)]
   rcases hnew k e with h1|h1
   ·exact h.inj j j' k hj hj' hne h1
   ·intro h3
    have:=((h.row j' hj').lt k h3).2
    omega
  ·rw[hR j e2] at e
   by_cases e3:j'=i
   ·subst e3
    rw[hRi]
    intro h3
    rcases hnew k h3 with h1|h1
    ·exact h.inj j j' k hj hj' hne e h1
    ·have:=((h.row j hj).lt k e).2
     omega
   ·rw[hR j' e3]
    exact h.inj j j' k hj hj' hne e
end
section
def stR (k j i:Nat):List Int :=
 if i<9 then ((List.range k).filter fun l=>(semi3[l]?.getD []).contains (i:Int)).map (fun (l:Nat)=>(l:Int))++(if ((semi3[k]?.getD []).take j).contains (i:Int) then [(k:Int)] else [])
 else ((List.range k).filter fun l=>(semi3[l]?.getD [])[2]?.getD 0==((i - 9:Nat):Int)).map (fun (l:Nat)=>(l:Int))
theorem stR_step:∀k,k<6→∀j,j<3→∀i,i<18→stR k (j+1) i=if (i:Int)=(semi3[k]?.getD [])[j]?.getD 0 then stR k j i++[(k:Int)] else stR k j i:=by decide +kernel
theorem stR_last:∀k,k<6→∀i,i<18→stR (k+1) 0 i=if (i:Int)=9+(semi3[k]?.getD [])[2]?.getD 0 then stR k 3 i++[(k:Int)] else stR k 3 i:=by decide +kernel
theorem stR_zero:∀i,i<18→stR 0 0 i=[]:=by decide +kernel
theorem stR_thr:∀i,i<9→stR 6 0 i=thr3[i]?.getD []:=by decide +kernel
theorem stR_end:∀i,i<9→stR 6 0 (9+i)=end3[i]?.getD []:=by decide +kernel
end
section
open Go Go.RowKit Go.Maps
theorem semi_len:∀k,k<6→(semi3[k]?.getD []).length=3:=by decide
theorem semi_rng:∀k,k<6→∀j,j<3→0≤(semi3[k]?.getD [])[j]?.getD 0∧(semi3[k]?.getD [])[j]?.getD 0<9:=by decide +kernel
theorem stR_len:∀k,k<6→∀j,j<4→∀i,i<18→(stR k j i).length≤7:=by decide +kernel
theorem map_lt {W:World} {b:Nat} {o:Obj} (h:W.heap[b]?=some o):b<W.heap.size:=by
 rcases Nat.lt_or_ge b W.heap.size with h1|h1
 ·exact h1
 ·rw[Array.getElem?_eq_none h1] at h;cases h
structure TW (Z W:World) (bt be bs:Nat) (K:Value) (R:Nat→Value × List Int):Prop where
 te:TE W Z.heap.size bt be 9 R
 sb:W.heap[bs]?=some (.cells #[.slice (some ⟨bt,0,none⟩) 9 9,.slice (some ⟨be,0,none⟩) 9 9,.slice none 0 0,K] 114 (0,0))
 rb:∀i k,i<18→(R i).1.ownBlock=some k→bs<k
 lt:bt<bs∧be<bs
 zb:Z.heap.size≤bs
 bl:Below Z.heap.size Z W
section
variable {Z W:World} {bt be bs:Nat} {K:Value} {R:Nat→Value × List Int}
theorem TW.keep (h:TW Z W bt be bs K R) {W':World} (hb:Below W.heap.size W W'):TW Z W' bt be bs K R :=
 ⟨h.te.keep hb,keepq hb h.sb,h.rb,h.lt,h.zb,h.bl.trans (hb.mono h.bl.size)⟩
theorem TW.cell (h:TW Z W bt be bs K R) {i:Nat} (hi:i<18):W.cell? ⟨if i<9 then bt else be,if i<9 then i else i - 9,none⟩=some (R i).1∧W.frozen? ⟨if i<9 then bt else be,if i<9 then i else i - 9,none⟩=false:=by
 by_cases hi9:i<9
 ·rw[if_pos hi9,if_pos hi9]
  obtain ⟨g2,cap2,x,hv,hx,hc,hf,hl,_⟩:=owns_free h.te.tb i hi9
  simp only[Value.slice.injEq,Option.some.injEq,Addr.mk.injEq,and_true,true_and] at hv
  obtain ⟨rfl,_⟩:=hv
  rw[List.getElem?_map,List.getElem?_range hi9] at hx
  cases hx
  exact ⟨hc,hf⟩
 ·rw[if_neg hi9,if_neg hi9]
  obtain ⟨g2,cap2,x,hv,hx,hc,hf,hl,_⟩:=owns_free h.te.eb (i - 9) (by omega)
  simp only[Value.slice.injEq,Option.some.injEq,Addr.mk.injEq,and_true,true_and] at hv
  obtain ⟨rfl,_⟩:=hv
  rw[List.getElem?_map,List.getElem?_range (by omega)] at hx
  have e:some (R (9+(i - 9))).1=some x:=hx
  rw[show 9+(i - 9)=i by omega] at e
  cases e
  exact ⟨hc,hf⟩
theorem TW.step (h:TW Z W bt be bs K R) {i:Nat} (hi:i<18) {W':World} {v':Value} {x:Int}
  (hs:Stays (fun k=>(R i).1.ownBlock=some k) W W') (hown:W'.ownsRow Z.heap.size 3 1 v' ((R i).2.length+1) ((R i).2.map (Value.int .i64)++[.int .i64 x])) (hnew:∀k,v'.ownBlock=some k→(R i).1.ownBlock=some k∨W.heap.size≤k) :
  TW Z (W'.setCell ⟨if i<9 then bt else be,if i<9 then i else i - 9,none⟩ v') bt be bs K (updF R i (v',(R i).2++[x])):=by
 have hbsl:=q_lt h.sb
 have hne:(if i<9 then bt else be)≠bs:=by have:=h.lt;split <;> omega
 have htl:Z.heap.size≤(if i<9 then bt else be):=by
  have h1:=(h.te.tb.lt bt rfl).1
  have h2:=(h.te.eb.lt be rfl).1
  split <;> assumption
 refine ⟨h.te.step hi hs hown hnew,?_,fun j k hj e=>?_,h.lt,h.zb,?_⟩
 ·have h1:W'.heap[bs]?=W.heap[bs]?:=hs.block bs hbsl (fun e=>by have:=h.rb i bs hi e;omega)
  exact (Below.heap_setCell _ _ _ _ (fun e=>hne e.symm)).trans (h1.trans h.sb)
 ·by_cases e2:j=i
  ·subst e2
   rw[updF_same] at e
   exact (hnew k e).elim (fun e3=>h.rb j k hj e3) (fun e3=>by omega)
  ·rw[updF_other _ _ e2] at e
   exact h.rb j k hj e
 ·exact (hs.below' h.bl.size h.bl (fun k e=>((h.te.row i hi).lt k e).1)).setCell (p:=⟨if i<9 then bt else be,if i<9 then i else i - 9,none⟩) htl _
end
def SrO (w:World) (e:Ending) (w':World):Prop :=
 ∃S:SP,e = .returned (.pointer (some ⟨S.bs,0,none⟩))∧S.n=9∧S.TL=thr3∧S.EL=end3∧SB S w'∧SM S 0 w'∧(∀c,c<9→w.heap.size≤S.mb c)∧Below w.heap.size w w'
theorem TE.stays {W W':World} {L bt be n:Nat} {R:Nat→Value × List Int} (h:TE W L bt be n R) {S:Nat→Prop} (hs:Stays S W W') (h1:¬S bt) (h2:¬S be) (h3:∀i k,i<n+n→(R i).1.ownBlock=some k→¬S k):TE W' L bt be n R :=
 ⟨owns_keep h.tb (fun k e hl=>hs.block k hl (by cases e;exact h1)),owns_keep h.eb (fun k e hl=>hs.block k hl (by cases e;exact h2)),fun i hi=>owns_keep (h.row i hi) (fun k e hl=>hs.block k hl (h3 i k hi e)),h.sep,h.inj,h.ne⟩
structure KW (Z W:World) (bt be bs:Nat) (R:Nat→Value × List Int) (m:Nat) (K:Value) (mb:Nat→Nat):Prop where
 tw:TW Z W bt be bs K R
 ks:W.ownsRow Z.heap.size 115 1 K m ((List.range m).map fun i => .map (some (mb i)))
 kb:∀k,K.ownBlock=some k→bs<k∧∀i,i<18→(R i).1.ownBlock≠some k
 mp:∀i,i<m→bs<mb i∧W.heap[mb i]?=some (.map #[] 0)
 inj:∀i j,i<m→j<m→mb i=mb j→i=j
theorem KW.step {Z W:World} {bt be bs:Nat} {R:Nat→Value × List Int} {m:Nat} {K:Value} {mb:Nat→Nat} (h:KW Z W bt be bs R m K mb) {W':World} {v':Value}
  (hs:Stays (fun k=>K.ownBlock=some k) W W') (hm:W'.heap[W.heap.size]?=some (.map #[] 0)) (hown:W'.ownsRow Z.heap.size 115 1 v' (m+1) (((List.range m).map fun i => .map (some (mb i)))++[.map (some W.heap.size)]))
  (hnew:∀k,v'.ownBlock=some k→K.ownBlock=some k∨W.heap.size≤k):KW Z (W'.setCell ⟨bs,3,none⟩ v') bt be bs R (m+1) v' (updF mb m W.heap.size):=by
 have hbl:=q_lt h.tw.sb
 have hst:Stays (fun k=>K.ownBlock=some k∨k=bs) W (W'.setCell ⟨bs,3,none⟩ v'):=(hs.mono (T:=fun k=>K.ownBlock=some k∨k=bs) (fun i e => .inl e)).trans (Stays.setCell (S:=fun k=>k=bs) W' (p:=⟨bs,3,none⟩) rfl v') (fun i e => .inl (.inr e))
 have hlt:=h.tw.lt
 have hnb:∀k,k≤bs→¬K.ownBlock=some k:=fun k hk e=>by have:=(h.kb k e).1;omega
 have hml:∀i,i<m→mb i<W.heap.size:=fun i hi=>map_lt (h.mp i hi).2
 have hvs:v'.ownBlock≠some bs:=fun e=>(hnew bs e).elim (hnb bs (Nat.le_refl _)) (fun h2=>by omega)
 refine ⟨⟨h.tw.te.stays hst ?_ ?_ ?_,?_,h.tw.rb,hlt,h.tw.zb,?_⟩,?_,fun k e=>?_,fun i hi=>?_,fun i j hi hj e=>?_⟩
 ·exact fun e=>e.elim (hnb bt (by omega)) (fun e=>by omega)
 ·exact fun e=>e.elim (hnb be (by omega)) (fun e=>by omega)
 ·exact fun i k hi e c=>c.elim (fun c=>(h.kb k c).2 i hi e) (fun c=>by have:=h.tw.rb i k hi e;omega)
 ·exact q_set (i:=3) ((hs.block bs hbl (hnb bs (Nat.le_refl _))).trans h.tw.sb) v'
 ·exact (hs.below' h.tw.bl.size h.tw.bl (fun k e=>(h.ks.lt k e).1)).setCell (p:=⟨bs,3,none⟩) h.tw.zb v'
 ·have e:(List.range (m+1)).map (fun i=>Value.map (some (updF mb m W.heap.size i)))=((List.range m).map fun i=>Value.map (some (mb i)))++[.map (some W.heap.size)]:=by
   rw[List.range_succ,List.map_append,List.map_singleton,updF_same]
   congr 1
   exact List.map_congr_left fun i hi=>by rw[updF_other _ _ (by have:=List.mem_range.1 hi;omega)]
  rw[e]
  exact ownsRow_setCell_other (a:=⟨bs,3,none⟩) hown hvs v'
 ·refine (hnew k e).elim (h.kb k) (fun h2=>⟨by omega,fun i hi e2=>?_⟩)
  have:=((h.tw.te.row i hi).lt k e2).2
  omega
 ·by_cases e:i=m
  ·subst e
   rw[updF_same]
   exact ⟨hbl,(Below.heap_setCell _ _ _ _ (by show W.heap.size≠bs;omega)).trans hm⟩
  ·have hi2:i<m:=by omega
   rw[updF_other _ _ e]
   refine ⟨(h.mp i hi2).1,(hst.block (mb i) (hml i hi2) (fun c=>c.elim (fun c=>?_) (fun c=>?_))).trans (h.mp i hi2).2⟩
   ·have:=owns_cells h.ks c (h.mp i hi2).2
    cases this
   ·have:=(h.mp i hi2).1
    omega
 ·by_cases e1:i=m
  ·by_cases e2:j=m
   ·omega
   ·subst e1
    rw[updF_same,updF_other _ _ e2] at e
    have:=hml j (by omega)
    omega
  ·by_cases e2:j=m
   ·subst e2
    rw[updF_same,updF_other _ _ e1] at e
    have:=hml i (by omega)
    omega
   ·rw[updF_other _ _ e1,updF_other _ _ e2] at e
    exact h.inj i j (by omega) (by omega) e
theorem mapV_at {W:World} {b:Nat} (h:W.heap[b]?=some (.map #[] 0)) {α:Type} {P:Program} {k:TypeId} {κ:α→Lit}:MapV W P k κ b 0 (fun _=>none):=by
 have hb:=map_lt h
 have e:=cutW_size (w:=W) (B:=b) (by omega)
 have h1:MapV ((cutW W b).alloc (.map #[] 0)) P k κ (cutW W b).heap.size 0 (fun _=>none):=MapV.made
 rw[e] at h1
 refine h1.block ?_
 rw[h]
 have:=World.alloc_heap_new (cutW W b) (.map #[] 0)
 rw[e] at this
 exact this.symm
theorem rc_of_tab {w:World} {og n:Nat} {B:Nat} {rv:List Value} {ES:List (List Int)} (h:w.ownsRow B 22 1 (.slice (some ⟨og,0,none⟩) n n) n rv) (hn:n≤256) (hl:ES.length=n) (hr:∀i:Nat,i<n→∃v,rv[i]?=some v∧w.ownsRow 0 3 1 v (ES[i]?.getD []).length ((ES[i]?.getD []).map (Value.int .i64))∧(ES[i]?.getD []).length≤256):RC w (some ⟨og,0,none⟩) n ES:=by
 refine ⟨⟨hl,by omega⟩,fun k hk=>?_⟩
 obtain ⟨g,cap,x,hv,hx,hc,_,hlt,_⟩:=owns_free h k hk
 simp only[Value.slice.injEq,Option.some.injEq,Addr.mk.injEq,true_and,and_true] at hv
 obtain ⟨rfl,_⟩:=hv
 obtain ⟨v,hv,ho,hle⟩:=hr k hk
 rw[hx] at hv
 cases hv
 obtain ⟨a1,c1,rfl⟩:=owns_shape ho
 have:=IC.of_owns ho (by omega)
 refine ⟨og,0,a1,_,c1,rfl,hlt,?_,this.1,this.2⟩
 rw[Nat.zero_add]
 exact hc
theorem KW.end {Z W:World} {bt be bs:Nat} {R:Nat→Value × List Int} {aK:Option Addr} {cK:Nat} {mb:Nat→Nat} (h:KW Z W bt be bs R 9 (.slice aK 9 cK) mb) (hR:∀i,i<18→(R i).2=stR 6 0 i) :
  SB ⟨bs,9,some ⟨bt,0,none⟩,some ⟨be,0,none⟩,aK,9,9,cK,thr3,end3,mb⟩ W∧SM ⟨bs,9,some ⟨bt,0,none⟩,some ⟨be,0,none⟩,aK,9,9,cK,thr3,end3,mb⟩ 0 W:=by
 have hln:∀i,i<18→((R i).2).length≤256:=fun i hi=>by
  rw[hR i hi]
  exact (by decide +kernel:∀i,i<18→(stR 6 0 i).length≤256) i hi
 have htb:RC W (some ⟨bt,0,none⟩) 9 thr3:=by
  refine rc_of_tab h.tw.te.tb (by omega) rfl (fun i hi=>⟨(R i).1,by rw[List.getElem?_map,List.getElem?_range hi];rfl,?_,?_⟩)
  ·rw[← stR_thr i hi,← hR i (by omega)]
   exact owns_base (h.tw.te.row i (by omega)) (Nat.zero_le _)
  ·rw[← stR_thr i hi,← hR i (by omega)]
   exact hln i (by omega)
 have heb:RC W (some ⟨be,0,none⟩) 9 end3:=by
  refine rc_of_tab h.tw.te.eb (by omega) rfl (fun i hi=>⟨(R (9+i)).1,by rw[List.getElem?_map,List.getElem?_range hi];rfl,?_,?_⟩)
  ·rw[← stR_end i hi,← hR (9+i) (by omega)]
   exact owns_base (h.tw.te.row (9+i) (by omega)) (Nat.zero_le _)
  ·rw[← stR_end i hi,← hR (9+i) (by omega)]
   exact hln (9+i) (by omega)
 refine ⟨⟨h.tw.sb,htb,heb,fun c hc=>?_,fun c=>?_,fun c=>?_,fun c hc=>?_⟩,⟨fun c hc=>⟨fun _=>none,mapV_at (h.mp c hc).2,fun _ _ e=>by cases e⟩,h.inj⟩⟩
 ·have hc:c<9:=hc
  obtain ⟨g2,cap2,x,hv,hx,hcc,hf,hl,_⟩:=owns_free h.ks c hc
  simp only[Value.slice.injEq] at hv
  obtain ⟨rfl,_,_⟩:=hv
  rw[List.getElem?_map,List.getElem?_range hc] at hx
  cases hx
  exact ⟨g2,0,rfl,hl,by rw[Nat.zero_add];exact hcc⟩
 ·by_cases hc:c<9
  ·exact (by decide +kernel:∀c,c<9→∀i,i∈thr3[c]?.getD []→0≤i∧i<12) c hc
  ·intro i hi
   have e:(SP.mk bs 9 (some ⟨bt,0,none⟩) (some ⟨be,0,none⟩) aK 9 9 cK thr3 end3 mb).Th c=[]:=by
    show thr3[c]?.getD []=[]
    rw[List.getElem?_eq_none (by show 9≤c;omega)];rfl
   rw[e] at hi
   cases hi
 ·by_cases hc:c<9
  ·exact (by decide +kernel:∀c,c<9→∀i,i∈end3[c]?.getD []→0≤i∧i<12) c hc
  ·intro i hi
   have e:(SP.mk bs 9 (some ⟨bt,0,none⟩) (some ⟨be,0,none⟩) aK 9 9 cK thr3 end3 mb).En c=[]:=by
    show end3[c]?.getD []=[]
    rw[List.getElem?_eq_none (by show 9≤c;omega)];rfl
   rw[e] at hi
   cases hi
 ·exact (by decide +kernel:∀c,c<9→thr3[c]?.getD []≠[]∧(thr3[c]?.getD []).Nodup) c hc
theorem updF_row {R:Nat→Value × List Int} {i j:Nat} {v':Value} {l:List Int}:(updF R i (v',l) j).2=if j=i then l else (R j).2:=by
 by_cases e:j=i
 ·subst e;rw[updF_same,if_pos rfl]
 ·rw[updF_other _ _ e,if_neg e]
end
end Go.Proofs.YtpkghjoippcjeaaGreatDoor
