/- Texts Y1 to Y1 of this proof, in one file. -/
import Derived.Test.YtcblpobiefmjmaaGreatW07
import Derived.Test.YtcblpobiefmjmaaGreatW16
namespace Go.Proofs.YtcblpobiefmjmaaGreat
set_option maxRecDepth 100000
set_option maxHeartbeats 16000000
section
open Go Go.RowKit Go.Shelf
def FreshR (L:Nat) (W:World) (v:Value) (ls:List (List Int)):Prop:=∃pre:List (Value × List Int),RowsI W (fun _=>False) L v pre∧pre.map Prod.snd=ls∧pre.length≤1000001
theorem RowsI.free {W:World} {M:Nat→Prop} {L L':Nat} {v:Value} {pre:List (Value × List Int)} (h:RowsI W M L v pre) (hl:L'≤L):RowsI W (fun _=>False) L' v pre :=
 ⟨owns_base h.1 hl,fun _ _ h=>h,fun x hx=>⟨owns_base (h.2.2 x hx).1 hl,fun k e=>⟨fun h=>h,((h.2.2 x hx).2 k e).2⟩⟩⟩
theorem FreshR.nil (L:Nat) (W:World):FreshR L W (.slice none 0 0) []:=⟨[],RowsI.nil _ _ _,rfl,by simp⟩
def FreshP (L:Nat) (ar:Option Addr) (nr:Nat):Prop:=∀b o,0<nr→ar=some ⟨b,o,none⟩→L≤b
theorem FreshP.of_owns {w:World} {base L n c m:Nat} {a:Option Addr} {e:TypeId} {xs:List Value} (h:w.ownsRow base e 1 (.slice a n c) m xs) (hl:L≤base):FreshP L a n:=fun b o _ ha=>by
 subst ha
 exact Nat.le_trans hl (owns_ge h (k:=b) rfl)
attribute [local go_sem] over_cell
attribute [local go_sem] Oper.semAt_some
theorem contE2a_c (a:Option Addr) (n c:Nat) (ls:List (List Int)) (cells sum:Int) (a':Option Addr) (n' c':Nat) (g:List Int) (ap:Option Addr) (np cp:Nat) (P:List Int) (tried:Int) (d:Bool) (B:Int) (w:World) (h:RC w a n ls) (hcap:n≤c) (h':IC w a' n' g) (hcap':n'≤c') (hP:IC w ap np P) (hcp:np≤cp)
  (hst:stateE cells ls sum g P tried d=0) (ht0:0≤tried) (ht1:tried≤999999999) (hB:B<0) (hB2 : -9223372036854775808≤B) :
  Calls Tryz.prog 39 #[.agg #[.int .i64 cells,.slice a n c,.int .i64 sum,.slice a' n' c'],.agg #[.slice ap np cp,.int .i64 tried,.bool d],.int .i64 B] w fun e w'=>e = .returned (.tuple #[.agg #[.slice none 0 0,.int .i64 0,.bool false],.slice none 0 0,.int .i64 3])∧Below w.heap.size w w':=by
 have HKS:=Lib.hid (fun w1 (hb:Below w.heap.size w w1)=>kstate_c a n c ls cells sum a' n' c' g ap np cp P tried d w1 (h.mono hb) hcap (h'.mono hb) hcap' (hP.mono hb) hcp)
 rw[hst] at HKS
 clear hst
 go_enter Tryz.func39,Tryz.ntmps39
 go_wp2_with fail
 go_step3
 go_wp2_with fail
 have fsz:(((w.alloc (.cells #[.int .i64 cells,.slice a n c,.int .i64 sum,.slice a' n' c'] 27)).alloc (.cells #[.slice ap np cp,.int .i64 tried,.bool d] 68)).alloc (.cells #[.slice none 0 0,.int .i64 0,.bool false] 68)).heap.size=w.heap.size+3:=by simp only[World.size_alloc] <;> omega
 have fB:Below w.heap.size w (((w.alloc (.cells #[.int .i64 cells,.slice a n c,.int .i64 sum,.slice a' n' c'] 27)).alloc (.cells #[.slice ap np cp,.int .i64 tried,.bool d] 68)).alloc (.cells #[.slice none 0 0,.int .i64 0,.bool false] 68)):=(((Below.refl _ _).alloc (Nat.le_refl _) _).alloc (by simp only[World.size_alloc];omega) _).alloc (by simp only[World.size_alloc];omega) _
 have fq0:(((w.alloc (.cells #[.int .i64 cells,.slice a n c,.int .i64 sum,.slice a' n' c'] 27)).alloc (.cells #[.slice ap np cp,.int .i64 tried,.bool d] 68)).alloc (.cells #[.slice none 0 0,.int .i64 0,.bool false] 68)).heap[w.heap.size]?=some (.cells #[.int .i64 cells,.slice a n c,.int .i64 sum,.slice a' n' c'] 27 (0,0)):=by have h:=World.alloc_heap_new w (.cells #[.int .i64 cells,.slice a n c,.int .i64 sum,.slice a' n' c'] 27);exact (Below.heap_alloc _ _ _ (by simp only[World.size_alloc];omega)).trans ((Below.heap_alloc _ _ _ (by simp only[World.size_alloc];omega)).trans (h))
 have fq1:(((w.alloc (.cells #[.int .i64 cells,.slice a n c,.int .i64 sum,.slice a' n' c'] 27)).alloc (.cells #[.slice ap np cp,.int .i64 tried,.bool d] 68)).alloc (.cells #[.slice none 0 0,.int .i64 0,.bool false] 68)).heap[w.heap.size+1]?=some (.cells #[.slice ap np cp,.int .i64 tried,.bool d] 68 (0,0)):=by have h:=World.alloc_heap_new (w.alloc (.cells #[.int .i64 cells,.slice a n c,.int .i64 sum,.slice a' n' c'] 27)) (.cells #[.slice ap np cp,.int .i64 tried,.bool d] 68);simp only[World.size_alloc] at h;exact (Below.heap_alloc _ _ _ (by simp only[World.size_alloc];omega)).trans (h)
 have fq2:(((w.alloc (.cells #[.int .i64 cells,.slice a n c,.int .i64 sum,.slice a' n' c'] 27)).alloc (.cells #[.slice ap np cp,.int .i64 tried,.bool d] 68)).alloc (.cells #[.slice none 0 0,.int .i64 0,.bool false] 68)).heap[w.heap.size+1+1]?=some (.cells #[.slice none 0 0,.int .i64 0,.bool false] 68 (0,0)):=by have h:=World.alloc_heap_new ((w.alloc (.cells #[.int .i64 cells,.slice a n c,.int .i64 sum,.slice a' n' c'] 27)).alloc (.cells #[.slice ap np cp,.int .i64 tried,.bool d] 68)) (.cells #[.slice none 0 0,.int .i64 0,.bool false] 68);simp only[World.size_alloc] at h;exact h
 generalize (((w.alloc (.cells #[.int .i64 cells,.slice a n c,.int .i64 sum,.slice a' n' c'] 27)).alloc (.cells #[.slice ap np cp,.int .i64 tried,.bool d] 68)).alloc (.cells #[.slice none 0 0,.int .i64 0,.bool false] 68))=W0 at fsz fB fq0 fq1 fq2 ⊢
 have fsz':w.heap.size+2<W0.heap.size:=by omega
 have HQ0:=Lib.hid fq0
 have HQ1:=Lib.hid fq1
 have HQR:=Lib.hid fq2
 clear fsz fq0 fq1 fq2
 refine (HKS.out W0 fB).mono ?_
 rintro _ w1 ⟨rfl,hb1⟩
 clear HKS
 have hd2:decide (B<0)=true:=decide_eq_true hB
 have hd4:decide ((999999999:Int)<tried+B)=false:=decide_eq_false (by omega)
 have hfl:firstL [whenV true 3,whenV false 4]=3:=by decide
 have y1:w1.cell? ⟨w.heap.size+1,1,none⟩=some (.int .i64 tried):=q_cell (keepq hb1 HQ1.out) 1
 have y2:w1.cell? ⟨w.heap.size+1,2,none⟩=some (.bool d):=q_cell (keepq hb1 HQ1.out) 2
 have yl:=q_lt (keepq hb1 HQ1.out)
 clear h h' hP
 go_wp2_with fail
 refine wp_region_S (fun w'=>∃u,w'=over (w1) u) [15,14,13,12] [(0,0),(0,1),(0,2),(0,3),(0,4),(0,5),(0,7),(0,8),(0,9),(0,10),(0,11),(1,6),(2,12),(2,13),(2,14),(2,15)] (by kernel_rfl) (by kernel_rfl) (by exact ⟨_,below_over (by repeat (first|assumption|exact Below.refl _ _|refine keep_drew ?_|refine keep_alloc ?_ _|refine keep_trans ?_ (by assumption)))⟩) ?_
 dsimp only[pickOps,nthOp]
 repeat (first|(refine wpS_skip rfl (fun K hK=>?_);go_big_quiet_op;refine hK _ ?_;clear hK K)|(refine wpS_quiet rfl rfl (fun K hK=>?_);go_big_quiet_op;refine hK _ ?_;clear hK K)|(refine wpS_loud ?_;go_wp2_with (first|(go_at_call 69;refine (when_c _ _ _).mono ?_;rintro _ w2 ⟨rfl,rfl⟩)|(go_at_call 79;refine (first_c _ _ _ _ _ ((IC.new2 _ _ _ _).mono (keep_drew (Below.refl _ _)))).mono ?_;rintro _ w4 ⟨rfl,rfl⟩));refine ⟨?_,?_⟩;focus (exact ⟨_,below_over (by repeat (first|assumption|exact Below.refl _ _|refine keep_drew ?_|refine keep_alloc ?_ _|refine keep_trans ?_ (by assumption)))⟩)))
 refine wpS_late _ _ _ rfl ?_
 dsimp only[List.map]
 go_wp2_with (first|(go_at_call 69;refine (when_c _ _ _).mono ?_;rintro _ w2 ⟨rfl,rfl⟩)|(go_at_call 79;refine (first_c _ _ _ _ _ ((IC.new2 _ _ _ _).mono (keep_drew (Below.refl _ _)))).mono ?_;rintro _ w4 ⟨rfl,rfl⟩))
 refine NoPanic.normal ?_
 generalize hW5:(w1.alloc (.cells #[.int .i64 (whenV true 3),.int .i64 (whenV false 4)] 34)).drew=w5
 have hb5:Below w1.heap.size w1 w5:=by rw[← hW5];exact ((Below.refl _ _).alloc (Nat.le_refl _) _).drew
 clear hW5
 have hB5:=hb1.trans (hb5.mono hb1.size)
 have hQR8:=Lib.hid (keepq hB5 HQR.out)
 have rl:=q_lt hQR8.out
 have r0:w5.cell? ⟨w.heap.size+1+1,0,none⟩=some (.slice none 0 0):=q_cell hQR8.out 0
 have r1:w5.cell? ⟨w.heap.size+1+1,1,none⟩=some (.int .i64 0):=q_cell hQR8.out 1
 have r2:w5.cell? ⟨w.heap.size+1+1,2,none⟩=some (.bool false):=q_cell hQR8.out 2
 have rf0:=q_free hQR8.out 0
 have rf1:=q_free hQR8.out 1
 have rf2:=q_free hQR8.out 2
 go_wp2_with fail
 have r:=q_set (i:=2) (q_set (i:=1) (q_set (i:=0) hQR8.out (.slice none 0 0)) (.int .i64 0)) (.bool false)
 have z0:=q_cell r 0
 have z1:=q_cell r 1
 have z2:=q_cell r 2
 go_wp2_with fail
 rw[Exit.noGoto_ret]
 refine bodyPost_ret (v := .tuple #[.agg #[.slice none 0 0,.int .i64 0,.bool false],.slice none 0 0,.int .i64 3]) ?_ rfl ?_
 ·simp[results,Tryz.f39,go_sem,z0,z1,z2]
 ·exact ⟨rfl,(((fB.trans (hB5.mono fB.size)).setCell (p:=⟨w.heap.size+1+1,0,none⟩) (by show w.heap.size≤w.heap.size+1+1;omega) _).setCell (p:=⟨w.heap.size+1+1,1,none⟩) (by show w.heap.size≤w.heap.size+1+1;omega) _).setCell (p:=⟨w.heap.size+1+1,2,none⟩) (by show w.heap.size≤w.heap.size+1+1;omega) _⟩
theorem contE2c_c (a:Option Addr) (n c:Nat) (ls:List (List Int)) (cells sum:Int) (a':Option Addr) (n' c':Nat) (g:List Int) (ap:Option Addr) (np cp:Nat) (P:List Int) (tried:Int) (d:Bool) (B:Int) (w:World) (h:RC w a n ls) (hcap:n≤c) (h':IC w a' n' g) (hcap':n'≤c') (hP:IC w ap np P) (hcp:np≤cp)
  (hst:stateE cells ls sum g P tried d=0) (ht0:0≤tried) (ht1:tried≤999999999) (hB:0≤B) (hB2:B≤1000000) (hB3:999999999<tried+B) :
  Calls Tryz.prog 39 #[.agg #[.int .i64 cells,.slice a n c,.int .i64 sum,.slice a' n' c'],.agg #[.slice ap np cp,.int .i64 tried,.bool d],.int .i64 B] w fun e w'=>e = .returned (.tuple #[.agg #[.slice none 0 0,.int .i64 0,.bool false],.slice none 0 0,.int .i64 4])∧Below w.heap.size w w':=by
 have HKS:=Lib.hid (fun w1 (hb:Below w.heap.size w w1)=>kstate_c a n c ls cells sum a' n' c' g ap np cp P tried d w1 (h.mono hb) hcap (h'.mono hb) hcap' (hP.mono hb) hcp)
 rw[hst] at HKS
 clear hst
 go_enter Tryz.func39,Tryz.ntmps39
 go_wp2_with fail
 go_step3
 go_wp2_with fail
 have fsz:(((w.alloc (.cells #[.int .i64 cells,.slice a n c,.int .i64 sum,.slice a' n' c'] 27)).alloc (.cells #[.slice ap np cp,.int .i64 tried,.bool d] 68)).alloc (.cells #[.slice none 0 0,.int .i64 0,.bool false] 68)).heap.size=w.heap.size+3:=by simp only[World.size_alloc] <;> omega
 have fB:Below w.heap.size w (((w.alloc (.cells #[.int .i64 cells,.slice a n c,.int .i64 sum,.slice a' n' c'] 27)).alloc (.cells #[.slice ap np cp,.int .i64 tried,.bool d] 68)).alloc (.cells #[.slice none 0 0,.int .i64 0,.bool false] 68)):=(((Below.refl _ _).alloc (Nat.le_refl _) _).alloc (by simp only[World.size_alloc];omega) _).alloc (by simp only[World.size_alloc];omega) _
 have fq0:(((w.alloc (.cells #[.int .i64 cells,.slice a n c,.int .i64 sum,.slice a' n' c'] 27)).alloc (.cells #[.slice ap np cp,.int .i64 tried,.bool d] 68)).alloc (.cells #[.slice none 0 0,.int .i64 0,.bool false] 68)).heap[w.heap.size]?=some (.cells #[.int .i64 cells,.slice a n c,.int .i64 sum,.slice a' n' c'] 27 (0,0)):=by have h:=World.alloc_heap_new w (.cells #[.int .i64 cells,.slice a n c,.int .i64 sum,.slice a' n' c'] 27);exact (Below.heap_alloc _ _ _ (by simp only[World.size_alloc];omega)).trans ((Below.heap_alloc _ _ _ (by simp only[World.size_alloc];omega)).trans (h))
 have fq1:(((w.alloc (.cells #[.int .i64 cells,.slice a n c,.int .i64 sum,.slice a' n' c'] 27)).alloc (.cells #[.slice ap np cp,.int .i64 tried,.bool d] 68)).alloc (.cells #[.slice none 0 0,.int .i64 0,.bool false] 68)).heap[w.heap.size+1]?=some (.cells #[.slice ap np cp,.int .i64 tried,.bool d] 68 (0,0)):=by have h:=World.alloc_heap_new (w.alloc (.cells #[.int .i64 cells,.slice a n c,.int .i64 sum,.slice a' n' c'] 27)) (.cells #[.slice ap np cp,.int .i64 tried,.bool d] 68);simp only[World.size_alloc] at h;exact (Below.heap_alloc _ _ _ (by simp only[World.size_alloc];omega)).trans (h)
 have fq2:(((w.alloc (.cells #[.int .i64 cells,.slice a n c,.int .i64 sum,.slice a' n' c'] 27)).alloc (.cells #[.slice ap np cp,.int .i64 tried,.bool d] 68)).alloc (.cells #[.slice none 0 0,.int .i64 0,.bool false] 68)).heap[w.heap.size+1+1]?=some (.cells #[.slice none 0 0,.int .i64 0,.bool false] 68 (0,0)):=by have h:=World.alloc_heap_new ((w.alloc (.cells #[.int .i64 cells,.slice a n c,.int .i64 sum,.slice a' n' c'] 27)).alloc (.cells #[.slice ap np cp,.int .i64 tried,.bool d] 68)) (.cells #[.slice none 0 0,.int .i64 0,.bool false] 68);simp only[World.size_alloc] at h;exact h
 generalize (((w.alloc (.cells #[.int .i64 cells,.slice a n c,.int .i64 sum,.slice a' n' c'] 27)).alloc (.cells #[.slice ap np cp,.int .i64 tried,.bool d] 68)).alloc (.cells #[.slice none 0 0,.int .i64 0,.bool false] 68))=W0 at fsz fB fq0 fq1 fq2 ⊢
 have fsz':w.heap.size+2<W0.heap.size:=by omega
 have HQ0:=Lib.hid fq0
 have HQ1:=Lib.hid fq1
 have HQR:=Lib.hid fq2
 clear fsz fq0 fq1 fq2
 refine (HKS.out W0 fB).mono ?_
 rintro _ w1 ⟨rfl,hb1⟩
 clear HKS
 have hd1:¬B<0:=by omega
 have hd2:decide (B<0)=false:=decide_eq_false hd1
 have hd3:decide ((1000000:Int)<B)=false:=decide_eq_false (by omega)
 have hd4:decide ((999999999:Int)<tried+B)=true:=decide_eq_true hB3
 have hfl:firstL [whenV false 3,whenV true 4]=4:=by decide
 have y1:w1.cell? ⟨w.heap.size+1,1,none⟩=some (.int .i64 tried):=q_cell (keepq hb1 HQ1.out) 1
 have y2:w1.cell? ⟨w.heap.size+1,2,none⟩=some (.bool d):=q_cell (keepq hb1 HQ1.out) 2
 have yl:=q_lt (keepq hb1 HQ1.out)
 clear h h' hP
 go_wp2_with fail
 refine wp_region_S (fun w'=>∃u,w'=over (w1) u) [15,14,13,12] [(0,0),(0,1),(0,2),(0,3),(0,4),(0,5),(0,7),(0,8),(0,9),(0,10),(0,11),(1,6),(2,12),(2,13),(2,14),(2,15)] (by kernel_rfl) (by kernel_rfl) (by exact ⟨_,below_over (by repeat (first|assumption|exact Below.refl _ _|refine keep_drew ?_|refine keep_alloc ?_ _|refine keep_trans ?_ (by assumption)))⟩) ?_
 dsimp only[pickOps,nthOp]
 repeat (first|(refine wpS_skip rfl (fun K hK=>?_);go_big_quiet_op;refine hK _ ?_;clear hK K)|(refine wpS_quiet rfl rfl (fun K hK=>?_);go_big_quiet_op;refine hK _ ?_;clear hK K)|(refine wpS_loud ?_;go_wp2_with (first|(go_at_call 69;refine (when_c _ _ _).mono ?_;rintro _ w2 ⟨rfl,rfl⟩)|(go_at_call 79;refine (first_c _ _ _ _ _ ((IC.new2 _ _ _ _).mono (keep_drew (Below.refl _ _)))).mono ?_;rintro _ w4 ⟨rfl,rfl⟩));refine ⟨?_,?_⟩;focus (exact ⟨_,below_over (by repeat (first|assumption|exact Below.refl _ _|refine keep_drew ?_|refine keep_alloc ?_ _|refine keep_trans ?_ (by assumption)))⟩)))
 refine wpS_late _ _ _ rfl ?_
 dsimp only[List.map]
 go_wp2_with (first|(go_at_call 69;refine (when_c _ _ _).mono ?_;rintro _ w2 ⟨rfl,rfl⟩)|(go_at_call 79;refine (first_c _ _ _ _ _ ((IC.new2 _ _ _ _).mono (keep_drew (Below.refl _ _)))).mono ?_;rintro _ w4 ⟨rfl,rfl⟩))
 refine NoPanic.normal ?_
 generalize hW5:(w1.alloc (.cells #[.int .i64 (whenV false 3),.int .i64 (whenV true 4)] 34)).drew=w5
 have hb5:Below w1.heap.size w1 w5:=by rw[← hW5];exact ((Below.refl _ _).alloc (Nat.le_refl _) _).drew
 clear hW5
 have hB5:=hb1.trans (hb5.mono hb1.size)
 have hQR8:=Lib.hid (keepq hB5 HQR.out)
 have rl:=q_lt hQR8.out
 have r0:w5.cell? ⟨w.heap.size+1+1,0,none⟩=some (.slice none 0 0):=q_cell hQR8.out 0
 have r1:w5.cell? ⟨w.heap.size+1+1,1,none⟩=some (.int .i64 0):=q_cell hQR8.out 1
 have r2:w5.cell? ⟨w.heap.size+1+1,2,none⟩=some (.bool false):=q_cell hQR8.out 2
 have rf0:=q_free hQR8.out 0
 have rf1:=q_free hQR8.out 1
 have rf2:=q_free hQR8.out 2
 go_wp2_with fail
 have r:=q_set (i:=2) (q_set (i:=1) (q_set (i:=0) hQR8.out (.slice none 0 0)) (.int .i64 0)) (.bool false)
 have z0:=q_cell r 0
 have z1:=q_cell r 1
 have z2:=q_cell r 2
 go_wp2_with fail
 rw[Exit.noGoto_ret]
 refine bodyPost_ret (v := .tuple #[.agg #[.slice none 0 0,.int .i64 0,.bool false],.slice none 0 0,.int .i64 4]) ?_ rfl ?_
 ·simp[results,Tryz.f39,go_sem,z0,z1,z2]
 ·exact ⟨rfl,(((fB.trans (hB5.mono fB.size)).setCell (p:=⟨w.heap.size+1+1,0,none⟩) (by show w.heap.size≤w.heap.size+1+1;omega) _).setCell (p:=⟨w.heap.size+1+1,1,none⟩) (by show w.heap.size≤w.heap.size+1+1;omega) _).setCell (p:=⟨w.heap.size+1+1,2,none⟩) (by show w.heap.size≤w.heap.size+1+1;omega) _⟩
theorem contD_c (a:Option Addr) (n c:Nat) (ls:List (List Int)) (cells sum:Int) (a':Option Addr) (n' c':Nat) (g:List Int) (ap:Option Addr) (np cp:Nat) (P:List Int) (tried:Int) (d:Bool) (B:Int) (w:World) (h:RC w a n ls) (hcap:n≤c) (h':IC w a' n' g) (hcap':n'≤c') (hP:IC w ap np P) (hcp:np≤cp)
  (hst:stateE cells ls sum g P tried d=0) (ht0:0≤tried) (hB1:0≤B) (hB2:B≤1000000) (ht:tried+B≤999999999) (hd:d=true) :
  Calls Tryz.prog 39 #[.agg #[.int .i64 cells,.slice a n c,.int .i64 sum,.slice a' n' c'],.agg #[.slice ap np cp,.int .i64 tried,.bool d],.int .i64 B] w fun e w'=>∃ar nr cr,e = .returned (.tuple #[.agg #[.slice ar nr cr,.int .i64 tried,.bool d],.slice none 0 0,.int .i64 0])∧IC w' ar nr P∧nr≤cr∧FreshP w.heap.size ar nr∧Below w.heap.size w w':=by
 subst hd
 have HKS:=Lib.hid (fun w1 (hb:Below w.heap.size w w1)=>kstate_c a n c ls cells sum a' n' c' g ap np cp P tried true w1 (h.mono hb) hcap (h'.mono hb) hcap' (hP.mono hb) hcp)
 rw[hst] at HKS
 clear hst
 go_enter Tryz.func39,Tryz.ntmps39
 go_wp2_with fail
 go_step3
 go_wp2_with fail
 have fsz:(((w.alloc (.cells #[.int .i64 cells,.slice a n c,.int .i64 sum,.slice a' n' c'] 27)).alloc (.cells #[.slice ap np cp,.int .i64 tried,.bool true] 68)).alloc (.cells #[.slice none 0 0,.int .i64 0,.bool false] 68)).heap.size=w.heap.size+3:=by simp only[World.size_alloc] <;> omega
 have fB:Below w.heap.size w (((w.alloc (.cells #[.int .i64 cells,.slice a n c,.int .i64 sum,.slice a' n' c'] 27)).alloc (.cells #[.slice ap np cp,.int .i64 tried,.bool true] 68)).alloc (.cells #[.slice none 0 0,.int .i64 0,.bool false] 68)):=(((Below.refl _ _).alloc (Nat.le_refl _) _).alloc (by simp only[World.size_alloc];omega) _).alloc (by simp only[World.size_alloc];omega) _
 have fq0:(((w.alloc (.cells #[.int .i64 cells,.slice a n c,.int .i64 sum,.slice a' n' c'] 27)).alloc (.cells #[.slice ap np cp,.int .i64 tried,.bool true] 68)).alloc (.cells #[.slice none 0 0,.int .i64 0,.bool false] 68)).heap[w.heap.size]?=some (.cells #[.int .i64 cells,.slice a n c,.int .i64 sum,.slice a' n' c'] 27 (0,0)):=by have h:=World.alloc_heap_new w (.cells #[.int .i64 cells,.slice a n c,.int .i64 sum,.slice a' n' c'] 27);exact (Below.heap_alloc _ _ _ (by simp only[World.size_alloc];omega)).trans ((Below.heap_alloc _ _ _ (by simp only[World.size_alloc];omega)).trans (h))
 have fq1:(((w.alloc (.cells #[.int .i64 cells,.slice a n c,.int .i64 sum,.slice a' n' c'] 27)).alloc (.cells #[.slice ap np cp,.int .i64 tried,.bool true] 68)).alloc (.cells #[.slice none 0 0,.int .i64 0,.bool false] 68)).heap[w.heap.size+1]?=some (.cells #[.slice ap np cp,.int .i64 tried,.bool true] 68 (0,0)):=by have h:=World.alloc_heap_new (w.alloc (.cells #[.int .i64 cells,.slice a n c,.int .i64 sum,.slice a' n' c'] 27)) (.cells #[.slice ap np cp,.int .i64 tried,.bool true] 68);simp only[World.size_alloc] at h;exact (Below.heap_alloc _ _ _ (by simp only[World.size_alloc];omega)).trans (h)
 have fq2:(((w.alloc (.cells #[.int .i64 cells,.slice a n c,.int .i64 sum,.slice a' n' c'] 27)).alloc (.cells #[.slice ap np cp,.int .i64 tried,.bool true] 68)).alloc (.cells #[.slice none 0 0,.int .i64 0,.bool false] 68)).heap[w.heap.size+1+1]?=some (.cells #[.slice none 0 0,.int .i64 0,.bool false] 68 (0,0)):=by have h:=World.alloc_heap_new ((w.alloc (.cells #[.int .i64 cells,.slice a n c,.int .i64 sum,.slice a' n' c'] 27)).alloc (.cells #[.slice ap np cp,.int .i64 tried,.bool true] 68)) (.cells #[.slice none 0 0,.int .i64 0,.bool false] 68);simp only[World.size_alloc] at h;exact h
 generalize (((w.alloc (.cells #[.int .i64 cells,.slice a n c,.int .i64 sum,.slice a' n' c'] 27)).alloc (.cells #[.slice ap np cp,.int .i64 tried,.bool true] 68)).alloc (.cells #[.slice none 0 0,.int .i64 0,.bool false] 68))=W0 at fsz fB fq0 fq1 fq2 ⊢
 have fsz':w.heap.size+2<W0.heap.size:=by omega
 have HQ0:=Lib.hid fq0
 have HQ1:=Lib.hid fq1
 have HQR:=Lib.hid fq2
 clear fsz fq0 fq1 fq2
 refine (HKS.out W0 fB).mono ?_
 rintro _ w1 ⟨rfl,hb1⟩
 clear HKS
 have hd1:¬B<0:=by omega
 have hd2:decide (B<0)=false:=decide_eq_false hd1
 have hd3:decide ((1000000:Int)<B)=false:=decide_eq_false (by omega)
 have hd4:decide ((999999999:Int)<tried+B)=false:=decide_eq_false (by omega)
 have hfl:firstL [whenV false 3,whenV false 4]=0:=by decide
 have HP:=Lib.hid hP
 have HPL:=Lib.hid hP.len
 have HPS:=Lib.hid hP.small
 clear h h' hP
 have y1:w1.cell? ⟨w.heap.size+1,1,none⟩=some (.int .i64 tried):=q_cell (keepq hb1 HQ1.out) 1
 have y2:w1.cell? ⟨w.heap.size+1,2,none⟩=some (.bool true):=q_cell (keepq hb1 HQ1.out) 2
 have yl:=q_lt (keepq hb1 HQ1.out)
 go_wp2_with fail
 refine wp_region_S (fun w'=>∃u,w'=over (w1) u) [15,14,13,12] [(0,0),(0,1),(0,2),(0,3),(0,4),(0,5),(0,7),(0,8),(0,9),(0,10),(0,11),(1,6),(2,12),(2,13),(2,14),(2,15)] (by kernel_rfl) (by kernel_rfl) (by exact ⟨_,below_over (by repeat (first|assumption|exact Below.refl _ _|refine keep_drew ?_|refine keep_alloc ?_ _|refine keep_trans ?_ (by assumption)))⟩) ?_
 dsimp only[pickOps,nthOp]
 repeat (first|(refine wpS_skip rfl (fun K hK=>?_);go_big_quiet_op;refine hK _ ?_;clear hK K)|(refine wpS_quiet rfl rfl (fun K hK=>?_);go_big_quiet_op;refine hK _ ?_;clear hK K)|(refine wpS_loud ?_;go_wp2_with (first|(go_at_call 69;refine (when_c _ _ _).mono ?_;rintro _ w2 ⟨rfl,rfl⟩)|(go_at_call 79;refine (first_c _ _ _ _ _ ((IC.new2 _ _ _ _).mono (keep_drew (Below.refl _ _)))).mono ?_;rintro _ w4 ⟨rfl,rfl⟩));refine ⟨?_,?_⟩;focus (exact ⟨_,below_over (by repeat (first|assumption|exact Below.refl _ _|refine keep_drew ?_|refine keep_alloc ?_ _|refine keep_trans ?_ (by assumption)))⟩)))
 refine wpS_late _ _ _ rfl ?_
 dsimp only[List.map]
 go_wp2_with (first|(go_at_call 69;refine (when_c _ _ _).mono ?_;rintro _ w2 ⟨rfl,rfl⟩)|(go_at_call 79;refine (first_c _ _ _ _ _ ((IC.new2 _ _ _ _).mono (keep_drew (Below.refl _ _)))).mono ?_;rintro _ w4 ⟨rfl,rfl⟩))
 refine NoPanic.normal ?_
 generalize hW5:(w1.alloc (.cells #[.int .i64 (whenV false 3),.int .i64 (whenV false 4)] 34)).drew=w5
 have hb5:Below w1.heap.size w1 w5:=by rw[← hW5];exact ((Below.refl _ _).alloc (Nat.le_refl _) _).drew
 clear hW5
 have hB5:=hb1.trans (hb5.mono hb1.size)
 have hBW5:=fB.trans (hB5.mono fB.size)
 clear y1 y2 yl hd1 hd2 hd3 hd4 hfl
 have y1:w5.cell? ⟨w.heap.size+1,1,none⟩=some (.int .i64 tried):=q_cell (keepq hB5 HQ1.out) 1
 have y2:w5.cell? ⟨w.heap.size+1,2,none⟩=some (.bool true):=q_cell (keepq hB5 HQ1.out) 2
 have yl:=q_lt (keepq hB5 HQ1.out)
 have y0:w5.cell? ⟨w.heap.size+1,0,none⟩=some (.slice ap np cp):=q_cell (keepq hB5 HQ1.out) 0
 go_wp2_with fail
 have HQR5:=Lib.hid (keepq hB5 HQR.out)
 have HCL:=Lib.hid (fun W (hb:Below w5.heap.size w5 W)=>clone_c ap np cp P W ((HP.out.mono hBW5).mono hb))
 refine wp_region_T (fun w'=>∃u,w'=over (w5) u) [0,3,5] [8,9,10] [(0,1),(0,4),(0,6),(1,2),(0,7),(2,8),(2,9),(2,10)] (by kernel_rfl) (by kernel_rfl) (by exact ⟨_,below_over (by repeat (first|assumption|exact Below.refl _ _|refine keep_drew ?_|refine keep_alloc ?_ _|refine keep_trans ?_ (by assumption)))⟩) ?_
 dsimp only[pickF,nthOp]
 repeat (first|(refine wpF_skip rfl (fun K hK=>?_);go_big_quiet_op;refine hK _ ?_;clear hK K)|(refine wpF_quiet rfl rfl (fun K hK=>?_);go_big_quiet_op;refine hK _ ?_;clear hK K))
 refine wpF_end ?_
 dsimp only[pickOps,nthOp]
 repeat (first|(refine wpS_skip rfl (fun K hK=>?_);go_big_quiet_op;refine hK _ ?_;clear hK K)|(refine wpS_quiet rfl rfl (fun K hK=>?_);go_big_quiet_op;refine hK _ ?_;clear hK K)|(refine wpS_loud ?_;go_wp2_with (first|(go_at_call 63;refine (HCL.out _ (keep_drew (Below.refl _ _))).mono ?_;rintro _ w8 ⟨v8,rfl,hown8,hb8⟩;obtain ⟨a8,c8,rfl⟩:=owns_shape hown8;have hQR8:=Lib.hid (keepq hb8 HQR5.out);have rl:=q_lt hQR8.out;have r0:w8.cell? ⟨w.heap.size+1+1,0,none⟩=some (.slice none 0 0):=q_cell hQR8.out 0;have r1:w8.cell? ⟨w.heap.size+1+1,1,none⟩=some (.int .i64 0):=q_cell hQR8.out 1;have r2:w8.cell? ⟨w.heap.size+1+1,2,none⟩=some (.bool false):=q_cell hQR8.out 2;have rf0:=q_free hQR8.out 0;have rf1:=q_free hQR8.out 1;have rf2:=q_free hQR8.out 2;replace y1:=((bcell hb8).1 _ _ yl).trans y1;replace y2:=((bcell hb8).1 _ _ yl).trans y2;replace yl:=Nat.lt_of_lt_of_le yl hb8.size));refine ⟨?_,?_⟩;focus (exact ⟨_,below_over (by repeat (first|assumption|exact Below.refl _ _|refine keep_drew ?_|refine keep_alloc ?_ _|refine keep_trans ?_ (by assumption)))⟩)))
 refine wpS_late _ _ _ rfl ?_
 dsimp only[List.map]
 go_wp2_with (first|(go_at_call 63;refine (HCL.out _ (keep_drew (Below.refl _ _))).mono ?_;rintro _ w8 ⟨v8,rfl,hown8,hb8⟩;obtain ⟨a8,c8,rfl⟩:=owns_shape hown8;have hQR8:=Lib.hid (keepq hb8 HQR5.out);have rl:=q_lt hQR8.out;have r0:w8.cell? ⟨w.heap.size+1+1,0,none⟩=some (.slice none 0 0):=q_cell hQR8.out 0;have r1:w8.cell? ⟨w.heap.size+1+1,1,none⟩=some (.int .i64 0):=q_cell hQR8.out 1;have r2:w8.cell? ⟨w.heap.size+1+1,2,none⟩=some (.bool false):=q_cell hQR8.out 2;have rf0:=q_free hQR8.out 0;have rf1:=q_free hQR8.out 1;have rf2:=q_free hQR8.out 2;replace y1:=((bcell hb8).1 _ _ yl).trans y1;replace y2:=((bcell hb8).1 _ _ yl).trans y2;replace yl:=Nat.lt_of_lt_of_le yl hb8.size))
 refine NoPanic.normal ?_
 replace hb8:Below w5.heap.size w5 w8:=(Below.refl _ w5).drew.trans hb8
 have hB8:=hB5.trans (hb8.mono hB5.size)
 have r:=q_set (i:=2) (q_set (i:=1) (q_set (i:=0) hQR8.out (.slice a8 P.length c8)) (.int .i64 tried)) (.bool true)
 have z0:=q_cell r 0
 have z1:=q_cell r 1
 have z2:=q_cell r 2
 have hz5:=hB5.size
 have hic8:=IC.of_owns (owns_keep (w':=((w8.setCell ⟨w.heap.size+1+1,0,none⟩ (.slice a8 P.length c8)).setCell ⟨w.heap.size+1+1,1,none⟩ (.int .i64 tried)).setCell ⟨w.heap.size+1+1,2,none⟩ (.bool true)) hown8 (fun q e hl=>by
  have h1:w5.heap.size≤q:=owns_ge hown8 e
  exact ((Below.heap_setCell _ _ _ _ (by show q≠w.heap.size+1+1;omega)).trans (Below.heap_setCell _ _ _ _ (by show q≠w.heap.size+1+1;omega))).trans (Below.heap_setCell _ _ _ _ (by show q≠w.heap.size+1+1;omega)))) (by rw[HPL.out];exact HPS.out)
 have HIC8:=Lib.hid hic8
 have HFP:=Lib.hid (FreshP.of_owns (L:=w.heap.size) hown8 (by have:=fB.size;have:=hB5.size;show w.heap.size≤w5.heap.size;omega))
 clear hown8 hic8 r r0 r1 r2 rf0 rf1 rf2
 go_wp2_with fail
 rw[Exit.noGoto_ret]
 refine bodyPost_ret (v := .tuple #[.agg #[.slice a8 P.length c8,.int .i64 tried,.bool true],.slice none 0 0,.int .i64 0]) ?_ rfl ?_
 ·simp[results,Tryz.f39,go_sem,z0,z1,z2]
 ·exact ⟨a8,P.length,c8,rfl,HIC8.out.1,HIC8.out.2,HFP.out,(((fB.trans (hB8.mono fB.size)).setCell (p:=⟨w.heap.size+1+1,0,none⟩) (by show w.heap.size≤w.heap.size+1+1;omega) _).setCell (p:=⟨w.heap.size+1+1,1,none⟩) (by show w.heap.size≤w.heap.size+1+1;omega) _).setCell (p:=⟨w.heap.size+1+1,2,none⟩) (by show w.heap.size≤w.heap.size+1+1;omega) _⟩
theorem contZ_c (a:Option Addr) (n c:Nat) (ls:List (List Int)) (cells sum:Int) (a':Option Addr) (n' c':Nat) (g:List Int) (ap:Option Addr) (np cp:Nat) (P:List Int) (tried:Int) (d:Bool) (B:Int) (w:World) (h:RC w a n ls) (hcap:n≤c) (h':IC w a' n' g) (hcap':n'≤c') (hP:IC w ap np P) (hcp:np≤cp)
  (hst:stateE cells ls sum g P tried d=0) (ht0:0≤tried) (hB1:0≤B) (hB2:B≤1000000) (ht:tried+B≤999999999) (hd:d=false) (hz:B=0) :
  Calls Tryz.prog 39 #[.agg #[.int .i64 cells,.slice a n c,.int .i64 sum,.slice a' n' c'],.agg #[.slice ap np cp,.int .i64 tried,.bool d],.int .i64 B] w fun e w'=>∃ar nr cr,e = .returned (.tuple #[.agg #[.slice ar nr cr,.int .i64 tried,.bool d],.slice none 0 0,.int .i64 0])∧IC w' ar nr P∧nr≤cr∧FreshP w.heap.size ar nr∧Below w.heap.size w w':=by
 subst hd;subst hz
 have HKS:=Lib.hid (fun w1 (hb:Below w.heap.size w w1)=>kstate_c a n c ls cells sum a' n' c' g ap np cp P tried false w1 (h.mono hb) hcap (h'.mono hb) hcap' (hP.mono hb) hcp)
 rw[hst] at HKS
 clear hst
 go_enter Tryz.func39,Tryz.ntmps39
 go_wp2_with fail
 go_step3
 go_wp2_with fail
 have fsz:(((w.alloc (.cells #[.int .i64 cells,.slice a n c,.int .i64 sum,.slice a' n' c'] 27)).alloc (.cells #[.slice ap np cp,.int .i64 tried,.bool false] 68)).alloc (.cells #[.slice none 0 0,.int .i64 0,.bool false] 68)).heap.size=w.heap.size+3:=by simp only[World.size_alloc] <;> omega
 have fB:Below w.heap.size w (((w.alloc (.cells #[.int .i64 cells,.slice a n c,.int .i64 sum,.slice a' n' c'] 27)).alloc (.cells #[.slice ap np cp,.int .i64 tried,.bool false] 68)).alloc (.cells #[.slice none 0 0,.int .i64 0,.bool false] 68)):=(((Below.refl _ _).alloc (Nat.le_refl _) _).alloc (by simp only[World.size_alloc];omega) _).alloc (by simp only[World.size_alloc];omega) _
 have fq0:(((w.alloc (.cells #[.int .i64 cells,.slice a n c,.int .i64 sum,.slice a' n' c'] 27)).alloc (.cells #[.slice ap np cp,.int .i64 tried,.bool false] 68)).alloc (.cells #[.slice none 0 0,.int .i64 0,.bool false] 68)).heap[w.heap.size]?=some (.cells #[.int .i64 cells,.slice a n c,.int .i64 sum,.slice a' n' c'] 27 (0,0)):=by have h:=World.alloc_heap_new w (.cells #[.int .i64 cells,.slice a n c,.int .i64 sum,.slice a' n' c'] 27);exact (Below.heap_alloc _ _ _ (by simp only[World.size_alloc];omega)).trans ((Below.heap_alloc _ _ _ (by simp only[World.size_alloc];omega)).trans (h))
 have fq1:(((w.alloc (.cells #[.int .i64 cells,.slice a n c,.int .i64 sum,.slice a' n' c'] 27)).alloc (.cells #[.slice ap np cp,.int .i64 tried,.bool false] 68)).alloc (.cells #[.slice none 0 0,.int .i64 0,.bool false] 68)).heap[w.heap.size+1]?=some (.cells #[.slice ap np cp,.int .i64 tried,.bool false] 68 (0,0)):=by have h:=World.alloc_heap_new (w.alloc (.cells #[.int .i64 cells,.slice a n c,.int .i64 sum,.slice a' n' c'] 27)) (.cells #[.slice ap np cp,.int .i64 tried,.bool false] 68);simp only[World.size_alloc] at h;exact (Below.heap_alloc _ _ _ (by simp only[World.size_alloc];omega)).trans (h)
 have fq2:(((w.alloc (.cells #[.int .i64 cells,.slice a n c,.int .i64 sum,.slice a' n' c'] 27)).alloc (.cells #[.slice ap np cp,.int .i64 tried,.bool false] 68)).alloc (.cells #[.slice none 0 0,.int .i64 0,.bool false] 68)).heap[w.heap.size+1+1]?=some (.cells #[.slice none 0 0,.int .i64 0,.bool false] 68 (0,0)):=by have h:=World.alloc_heap_new ((w.alloc (.cells #[.int .i64 cells,.slice a n c,.int .i64 sum,.slice a' n' c'] 27)).alloc (.cells #[.slice ap np cp,.int .i64 tried,.bool false] 68)) (.cells #[.slice none 0 0,.int .i64 0,.bool false] 68);simp only[World.size_alloc] at h;exact h
 generalize (((w.alloc (.cells #[.int .i64 cells,.slice a n c,.int .i64 sum,.slice a' n' c'] 27)).alloc (.cells #[.slice ap np cp,.int .i64 tried,.bool false] 68)).alloc (.cells #[.slice none 0 0,.int .i64 0,.bool false] 68))=W0 at fsz fB fq0 fq1 fq2 ⊢
 have fsz':w.heap.size+2<W0.heap.size:=by omega
 have HQ0:=Lib.hid fq0
 have HQ1:=Lib.hid fq1
 have HQR:=Lib.hid fq2
 clear fsz fq0 fq1 fq2
 refine (HKS.out W0 fB).mono ?_
 rintro _ w1 ⟨rfl,hb1⟩
 clear HKS
 have hd1:¬(0:Int)<0:=by omega
 have hd2:decide ((0:Int)<0)=false:=decide_eq_false hd1
 have hd3:decide ((1000000:Int)<0)=false:=decide_eq_false (by omega)
 have hd4:decide ((999999999:Int)<tried)=false:=decide_eq_false (by omega)
 have hfl:firstL [whenV false 3,whenV false 4]=0:=by decide
 have HP:=Lib.hid hP
 have HPL:=Lib.hid hP.len
 have HPS:=Lib.hid hP.small
 clear h h' hP
 have y1:w1.cell? ⟨w.heap.size+1,1,none⟩=some (.int .i64 tried):=q_cell (keepq hb1 HQ1.out) 1
 have y2:w1.cell? ⟨w.heap.size+1,2,none⟩=some (.bool false):=q_cell (keepq hb1 HQ1.out) 2
 have yl:=q_lt (keepq hb1 HQ1.out)
 go_wp2_with fail
 refine wp_region_S (fun w'=>∃u,w'=over (w1) u) [15,14,13,12] [(0,0),(0,1),(0,2),(0,3),(0,4),(0,5),(0,7),(0,8),(0,9),(0,10),(0,11),(1,6),(2,12),(2,13),(2,14),(2,15)] (by kernel_rfl) (by kernel_rfl) (by exact ⟨_,below_over (by repeat (first|assumption|exact Below.refl _ _|refine keep_drew ?_|refine keep_alloc ?_ _|refine keep_trans ?_ (by assumption)))⟩) ?_
 dsimp only[pickOps,nthOp]
 repeat (first|(refine wpS_skip rfl (fun K hK=>?_);go_big_quiet_op;refine hK _ ?_;clear hK K)|(refine wpS_quiet rfl rfl (fun K hK=>?_);go_big_quiet_op;refine hK _ ?_;clear hK K)|(refine wpS_loud ?_;go_wp2_with (first|(go_at_call 69;refine (when_c _ _ _).mono ?_;rintro _ w2 ⟨rfl,rfl⟩)|(go_at_call 79;refine (first_c _ _ _ _ _ ((IC.new2 _ _ _ _).mono (keep_drew (Below.refl _ _)))).mono ?_;rintro _ w4 ⟨rfl,rfl⟩));refine ⟨?_,?_⟩;focus (exact ⟨_,below_over (by repeat (first|assumption|exact Below.refl _ _|refine keep_drew ?_|refine keep_alloc ?_ _|refine keep_trans ?_ (by assumption)))⟩)))
 refine wpS_late _ _ _ rfl ?_
 dsimp only[List.map]
 go_wp2_with (first|(go_at_call 69;refine (when_c _ _ _).mono ?_;rintro _ w2 ⟨rfl,rfl⟩)|(go_at_call 79;refine (first_c _ _ _ _ _ ((IC.new2 _ _ _ _).mono (keep_drew (Below.refl _ _)))).mono ?_;rintro _ w4 ⟨rfl,rfl⟩))
 refine NoPanic.normal ?_
 generalize hW5:(w1.alloc (.cells #[.int .i64 (whenV false 3),.int .i64 (whenV false 4)] 34)).drew=w5
 have hb5:Below w1.heap.size w1 w5:=by rw[← hW5];exact ((Below.refl _ _).alloc (Nat.le_refl _) _).drew
 clear hW5
 have hB5:=hb1.trans (hb5.mono hb1.size)
 have hBW5:=fB.trans (hB5.mono fB.size)
 clear y1 y2 yl hd1 hd2 hd3 hd4 hfl
 have y1:w5.cell? ⟨w.heap.size+1,1,none⟩=some (.int .i64 tried):=q_cell (keepq hB5 HQ1.out) 1
 have y2:w5.cell? ⟨w.heap.size+1,2,none⟩=some (.bool false):=q_cell (keepq hB5 HQ1.out) 2
 have yl:=q_lt (keepq hB5 HQ1.out)
 have y0:w5.cell? ⟨w.heap.size+1,0,none⟩=some (.slice ap np cp):=q_cell (keepq hB5 HQ1.out) 0
 go_wp2_with fail
 have HQR5:=Lib.hid (keepq hB5 HQR.out)
 have HCL:=Lib.hid (fun W (hb:Below w5.heap.size w5 W)=>clone_c ap np cp P W ((HP.out.mono hBW5).mono hb))
 refine wp_region_T (fun w'=>∃u,w'=over (w5) u) [0,3,5] [8,9,10] [(0,1),(0,4),(0,6),(1,2),(0,7),(2,8),(2,9),(2,10)] (by kernel_rfl) (by kernel_rfl) (by exact ⟨_,below_over (by repeat (first|assumption|exact Below.refl _ _|refine keep_drew ?_|refine keep_alloc ?_ _|refine keep_trans ?_ (by assumption)))⟩) ?_
 dsimp only[pickF,nthOp]
 repeat (first|(refine wpF_skip rfl (fun K hK=>?_);go_big_quiet_op;refine hK _ ?_;clear hK K)|(refine wpF_quiet rfl rfl (fun K hK=>?_);go_big_quiet_op;refine hK _ ?_;clear hK K))
 refine wpF_end ?_
 dsimp only[pickOps,nthOp]
 repeat (first|(refine wpS_skip rfl (fun K hK=>?_);go_big_quiet_op;refine hK _ ?_;clear hK K)|(refine wpS_quiet rfl rfl (fun K hK=>?_);go_big_quiet_op;refine hK _ ?_;clear hK K)|(refine wpS_loud ?_;go_wp2_with (first|(go_at_call 63;refine (HCL.out _ (keep_drew (Below.refl _ _))).mono ?_;rintro _ w8 ⟨v8,rfl,hown8,hb8⟩;obtain ⟨a8,c8,rfl⟩:=owns_shape hown8;have hQR8:=Lib.hid (keepq hb8 HQR5.out);have rl:=q_lt hQR8.out;have r0:w8.cell? ⟨w.heap.size+1+1,0,none⟩=some (.slice none 0 0):=q_cell hQR8.out 0;have r1:w8.cell? ⟨w.heap.size+1+1,1,none⟩=some (.int .i64 0):=q_cell hQR8.out 1;have r2:w8.cell? ⟨w.heap.size+1+1,2,none⟩=some (.bool false):=q_cell hQR8.out 2;have rf0:=q_free hQR8.out 0;have rf1:=q_free hQR8.out 1;have rf2:=q_free hQR8.out 2;replace y1:=((bcell hb8).1 _ _ yl).trans y1;replace y2:=((bcell hb8).1 _ _ yl).trans y2;replace yl:=Nat.lt_of_lt_of_le yl hb8.size));refine ⟨?_,?_⟩;focus (exact ⟨_,below_over (by repeat (first|assumption|exact Below.refl _ _|refine keep_drew ?_|refine keep_alloc ?_ _|refine keep_trans ?_ (by assumption)))⟩)))
 refine wpS_late _ _ _ rfl ?_
 dsimp only[List.map]
 go_wp2_with (first|(go_at_call 63;refine (HCL.out _ (keep_drew (Below.refl _ _))).mono ?_;rintro _ w8 ⟨v8,rfl,hown8,hb8⟩;obtain ⟨a8,c8,rfl⟩:=owns_shape hown8;have hQR8:=Lib.hid (keepq hb8 HQR5.out);have rl:=q_lt hQR8.out;have r0:w8.cell? ⟨w.heap.size+1+1,0,none⟩=some (.slice none 0 0):=q_cell hQR8.out 0;have r1:w8.cell? ⟨w.heap.size+1+1,1,none⟩=some (.int .i64 0):=q_cell hQR8.out 1;have r2:w8.cell? ⟨w.heap.size+1+1,2,none⟩=some (.bool false):=q_cell hQR8.out 2;have rf0:=q_free hQR8.out 0;have rf1:=q_free hQR8.out 1;have rf2:=q_free hQR8.out 2;replace y1:=((bcell hb8).1 _ _ yl).trans y1;replace y2:=((bcell hb8).1 _ _ yl).trans y2;replace yl:=Nat.lt_of_lt_of_le yl hb8.size))
 refine NoPanic.normal ?_
 replace hb8:Below w5.heap.size w5 w8:=(Below.refl _ w5).drew.trans hb8
 have hB8:=hB5.trans (hb8.mono hB5.size)
 have r:=q_set (i:=2) (q_set (i:=1) (q_set (i:=0) hQR8.out (.slice a8 P.length c8)) (.int .i64 tried)) (.bool false)
 have z0:=q_cell r 0
 have z1:=q_cell r 1
 have z2:=q_cell r 2
 have hz5:=hB5.size
 have hic8:=IC.of_owns (owns_keep (w':=((w8.setCell ⟨w.heap.size+1+1,0,none⟩ (.slice a8 P.length c8)).setCell ⟨w.heap.size+1+1,1,none⟩ (.int .i64 tried)).setCell ⟨w.heap.size+1+1,2,none⟩ (.bool false)) hown8 (fun q e hl=>by
  have h1:w5.heap.size≤q:=owns_ge hown8 e
  exact ((Below.heap_setCell _ _ _ _ (by show q≠w.heap.size+1+1;omega)).trans (Below.heap_setCell _ _ _ _ (by show q≠w.heap.size+1+1;omega))).trans (Below.heap_setCell _ _ _ _ (by show q≠w.heap.size+1+1;omega)))) (by rw[HPL.out];exact HPS.out)
 have HIC8:=Lib.hid hic8
 have HFP:=Lib.hid (FreshP.of_owns (L:=w.heap.size) hown8 (by have:=fB.size;have:=hB5.size;show w.heap.size≤w5.heap.size;omega))
 clear hown8 hic8 r r0 r1 r2 rf0 rf1 rf2
 go_wp2_with fail
 rw[Exit.noGoto_ret]
 refine bodyPost_ret (v := .tuple #[.agg #[.slice a8 P.length c8,.int .i64 tried,.bool false],.slice none 0 0,.int .i64 0]) ?_ rfl ?_
 ·simp[results,Tryz.f39,go_sem,z0,z1,z2]
 ·exact ⟨a8,P.length,c8,rfl,HIC8.out.1,HIC8.out.2,HFP.out,(((fB.trans (hB8.mono fB.size)).setCell (p:=⟨w.heap.size+1+1,0,none⟩) (by show w.heap.size≤w.heap.size+1+1;omega) _).setCell (p:=⟨w.heap.size+1+1,1,none⟩) (by show w.heap.size≤w.heap.size+1+1;omega) _).setCell (p:=⟨w.heap.size+1+1,2,none⟩) (by show w.heap.size≤w.heap.size+1+1;omega) _⟩
end
end Go.Proofs.YtcblpobiefmjmaaGreat
