/- Texts J198 to J198 of this proof, in one file. -/
import Derived.Test.YtpkghjoippcjeaaW10
import Derived.Test.YtpkghjoippcjeaaW16
namespace Go.Proofs.Ytpkghjoippcjeaa
set_option maxRecDepth 100000
set_option maxHeartbeats 16000000
section
open Go Go.RowKit
attribute [local go_sem] over_cell
attribute [local go_sem] Oper.semAt_some
theorem kinds_sc {w:World} {l:List ByteArray} {er:Int} {e:Ending} {w':World} (h:KindsE w l er e w') (hl:l.length≤1000):∃a c,e = .returned (.tuple #[.slice a l.length c,.int .i64 er])∧SC w' a l.length l∧Below w.heap.size w w':=by
 obtain ⟨a,c,he,ho,hb⟩:=h
 refine ⟨a,c,he,⟨⟨rfl,hl⟩,fun k hk=>?_⟩,hb⟩
 obtain ⟨g,cap,x,hv,hx,hc,_,hg,_⟩:=owns_free ho k hk
 simp only[Value.slice.injEq] at hv
 obtain ⟨rfl,_⟩:=hv
 rw[List.getElem?_map] at hx
 cases hxs:l[k]? with
 | none=>rw[hxs] at hx;cases hx
 | some y=>rw[hxs] at hx;cases hx;exact ⟨g,0,rfl,hg,by rw[Nat.zero_add];exact hc⟩
theorem ldig_g0 (z a0 a1 b0 b1 c0 c1:Int) (w:World) (h:stepE z [a0,a1,b0,b1,c0,c1]≠0) :
  Calls Try.prog 3 #[.agg #[.int .i64 z,.int .i64 a0,.int .i64 a1,.int .i64 b0,.int .i64 b1,.int .i64 c0,.int .i64 c1]] w fun e w'=>e = .returned (.bool true)∧Below w.heap.size w w':=by
 have HS:=Lib.hid (fun W=>rstep3_c z a0 a1 b0 b1 c0 c1 W)
 have HP:=Lib.hid (fun W=>pairs_c W)
 have he:(stepE z [a0,a1,b0,b1,c0,c1] != 0)=true:=by simpa using h
 generalize stepE z [a0,a1,b0,b1,c0,c1]=er at HS he
 clear h
 go_enter Try.func3,Try.ntmps3
 go_upto_region 1 with fail
 have fsz:(w.alloc (.cells #[.int .i64 z,.int .i64 a0,.int .i64 a1,.int .i64 b0,.int .i64 b1,.int .i64 c0,.int .i64 c1] 24)).heap.size=w.heap.size+1:=by simp only[World.size_alloc]
 have fB:Below w.heap.size w (w.alloc (.cells #[.int .i64 z,.int .i64 a0,.int .i64 a1,.int .i64 b0,.int .i64 b1,.int .i64 c0,.int .i64 c1] 24)):=(Below.refl _ _).alloc (Nat.le_refl _) _
 have fq0:(w.alloc (.cells #[.int .i64 z,.int .i64 a0,.int .i64 a1,.int .i64 b0,.int .i64 b1,.int .i64 c0,.int .i64 c1] 24)).heap[w.heap.size]?=some (.cells #[.int .i64 z,.int .i64 a0,.int .i64 a1,.int .i64 b0,.int .i64 b1,.int .i64 c0,.int .i64 c1] 24 (0,0)):=by have h:=World.alloc_heap_new w (.cells #[.int .i64 z,.int .i64 a0,.int .i64 a1,.int .i64 b0,.int .i64 b1,.int .i64 c0,.int .i64 c1] 24);exact h
 generalize (w.alloc (.cells #[.int .i64 z,.int .i64 a0,.int .i64 a1,.int .i64 b0,.int .i64 b1,.int .i64 c0,.int .i64 c1] 24))=W0 at fsz fB fq0 ⊢
 have QS:=Lib.hid fq0
 have FB:=Lib.hid fB
 obtain ⟨⟨t0,t1,t2,t3,t4,t5,t6,tl⟩,_⟩:=c7_of fq0
 clear fsz fq0 fB
 go_wp2_with (first|(go_at_call 4;refine (HS.out _).mono ?_;rintro _ w1 ⟨rfl,hb1⟩;clear t0 t1 t2 t3 t4 t5 t6 tl;obtain ⟨⟨t0,t1,t2,t3,t4,t5,t6,tl⟩,_⟩:=c7_of (keepq hb1 QS.out))|(go_at_call 5;refine (HP.out _).mono ?_;rintro _ w9 ⟨rfl,hb9⟩)|fail)
 go_ret
 exact ⟨rfl,keep_trans (keep_trans FB.out hb1) hb9⟩
theorem ldig_g1 (z a0 a1 b0 b1 c0 c1:Int) (w:World) (h:stepE z [a0,a1,b0,b1,c0,c1]=0) (h9:9<z) :
  Calls Try.prog 3 #[.agg #[.int .i64 z,.int .i64 a0,.int .i64 a1,.int .i64 b0,.int .i64 b1,.int .i64 c0,.int .i64 c1]] w fun e w'=>e = .returned (.bool true)∧Below w.heap.size w w':=by
 have HS:=Lib.hid (fun W=>rstep3_c z a0 a1 b0 b1 c0 c1 W)
 rw[h] at HS
 have HP:=Lib.hid (fun W=>pairs_c W)
 have hd:decide ((9:Int)<z)=true:=decide_eq_true h9
 clear h
 go_enter Try.func3,Try.ntmps3
 go_upto_region 1 with fail
 have fsz:(w.alloc (.cells #[.int .i64 z,.int .i64 a0,.int .i64 a1,.int .i64 b0,.int .i64 b1,.int .i64 c0,.int .i64 c1] 24)).heap.size=w.heap.size+1:=by simp only[World.size_alloc]
 have fB:Below w.heap.size w (w.alloc (.cells #[.int .i64 z,.int .i64 a0,.int .i64 a1,.int .i64 b0,.int .i64 b1,.int .i64 c0,.int .i64 c1] 24)):=(Below.refl _ _).alloc (Nat.le_refl _) _
 have fq0:(w.alloc (.cells #[.int .i64 z,.int .i64 a0,.int .i64 a1,.int .i64 b0,.int .i64 b1,.int .i64 c0,.int .i64 c1] 24)).heap[w.heap.size]?=some (.cells #[.int .i64 z,.int .i64 a0,.int .i64 a1,.int .i64 b0,.int .i64 b1,.int .i64 c0,.int .i64 c1] 24 (0,0)):=by have h:=World.alloc_heap_new w (.cells #[.int .i64 z,.int .i64 a0,.int .i64 a1,.int .i64 b0,.int .i64 b1,.int .i64 c0,.int .i64 c1] 24);exact h
 generalize (w.alloc (.cells #[.int .i64 z,.int .i64 a0,.int .i64 a1,.int .i64 b0,.int .i64 b1,.int .i64 c0,.int .i64 c1] 24))=W0 at fsz fB fq0 ⊢
 have QS:=Lib.hid fq0
 have FB:=Lib.hid fB
 obtain ⟨⟨t0,t1,t2,t3,t4,t5,t6,tl⟩,_⟩:=c7_of fq0
 clear fsz fq0 fB
 go_wp2_with (first|(go_at_call 4;refine (HS.out _).mono ?_;rintro _ w1 ⟨rfl,hb1⟩;clear t0 t1 t2 t3 t4 t5 t6 tl;obtain ⟨⟨t0,t1,t2,t3,t4,t5,t6,tl⟩,_⟩:=c7_of (keepq hb1 QS.out))|(go_at_call 5;refine (HP.out _).mono ?_;rintro _ w9 ⟨rfl,hb9⟩)|fail)
 go_ret
 exact ⟨rfl,keep_trans (keep_trans FB.out hb1) hb9⟩
theorem ldig_g2 (n:Nat) (a0 a1 b0 b1 c0 c1:Int) (w:World) (HS:Hid (∀W,Calls Try.prog 4 #[.agg #[.int .i64 (n:Int),.int .i64 a0,.int .i64 a1,.int .i64 b0,.int .i64 b1,.int .i64 c0,.int .i64 c1]] W fun e w'=>e = .returned (.int .i64 0)∧Below W.heap.size W w'))
  (h9:n≤9)
  (HM:Hid (∀W,Calls Try.prog 6 #[.agg #[.int .i64 (n:Int),.int .i64 a0,.int .i64 a1,.int .i64 b0,.int .i64 b1,.int .i64 c0,.int .i64 c1]] W fun e w'=>(∃p q:Int,e = .returned (.tuple #[.int .i64 p,.int .i64 q])∧0<q)∧Below W.heap.size W w')) :
  Calls Try.prog 3 #[.agg #[.int .i64 (n:Int),.int .i64 a0,.int .i64 a1,.int .i64 b0,.int .i64 b1,.int .i64 c0,.int .i64 c1]] w fun e w'=>e = .returned (.bool true)∧Below w.heap.size w w':=by
 have HP:=Lib.hid (fun W=>pairs_c W)
 have hd:decide ((9:Int)<(n:Int))=false:=decide_eq_false (by omega)
 go_enter Try.func3,Try.ntmps3
 go_upto_region 1 with fail
 have fsz:(w.alloc (.cells #[.int .i64 (n:Int),.int .i64 a0,.int .i64 a1,.int .i64 b0,.int .i64 b1,.int .i64 c0,.int .i64 c1] 24)).heap.size=w.heap.size+1:=by simp only[World.size_alloc]
 have fB:Below w.heap.size w (w.alloc (.cells #[.int .i64 (n:Int),.int .i64 a0,.int .i64 a1,.int .i64 b0,.int .i64 b1,.int .i64 c0,.int .i64 c1] 24)):=(Below.refl _ _).alloc (Nat.le_refl _) _
 have fq0:(w.alloc (.cells #[.int .i64 (n:Int),.int .i64 a0,.int .i64 a1,.int .i64 b0,.int .i64 b1,.int .i64 c0,.int .i64 c1] 24)).heap[w.heap.size]?=some (.cells #[.int .i64 (n:Int),.int .i64 a0,.int .i64 a1,.int .i64 b0,.int .i64 b1,.int .i64 c0,.int .i64 c1] 24 (0,0)):=by have h:=World.alloc_heap_new w (.cells #[.int .i64 (n:Int),.int .i64 a0,.int .i64 a1,.int .i64 b0,.int .i64 b1,.int .i64 c0,.int .i64 c1] 24);exact h
 generalize (w.alloc (.cells #[.int .i64 (n:Int),.int .i64 a0,.int .i64 a1,.int .i64 b0,.int .i64 b1,.int .i64 c0,.int .i64 c1] 24))=W0 at fsz fB fq0 ⊢
 have QS:=Lib.hid fq0
 have FB:=Lib.hid fB
 obtain ⟨⟨t0,t1,t2,t3,t4,t5,t6,tl⟩,_⟩:=c7_of fq0
 clear fsz fq0 fB
 go_wp2_with (first|(go_at_call 4;refine (HS.out _).mono ?_;rintro _ w1 ⟨rfl,hb1⟩;clear t0 t1 t2 t3 t4 t5 t6 tl;obtain ⟨⟨t0,t1,t2,t3,t4,t5,t6,tl⟩,_⟩:=c7_of (keepq hb1 QS.out))|(go_at_call 6;refine (HM.out _).mono ?_;rintro _ w2 ⟨⟨p,q,rfl,hq⟩,hb2⟩;have hq2:decide ((0:Int)<q)=true:=decide_eq_true hq)|(go_at_call 5;refine (HP.out _).mono ?_;rintro _ w9 ⟨rfl,hb9⟩)|fail)
 go_ret
 exact ⟨rfl,keep_trans (keep_trans (keep_trans FB.out hb1) hb2) hb9⟩
theorem ldig_a (n:Nat) (a0 a1 b0 b1 c0 c1:Int) (L A B:List Int) (eA:Int) (sB pB:Bool) (w:World) (HS:Hid (∀W,Calls Try.prog 4 #[.agg #[.int .i64 (n:Int),.int .i64 a0,.int .i64 a1,.int .i64 b0,.int .i64 b1,.int .i64 c0,.int .i64 c1]] W fun e w'=>e = .returned (.int .i64 0)∧Below W.heap.size W w'))
  (h9:n≤9)
  (HM:Hid (∀W,Calls Try.prog 6 #[.agg #[.int .i64 (n:Int),.int .i64 a0,.int .i64 a1,.int .i64 b0,.int .i64 b1,.int .i64 c0,.int .i64 c1]] W fun e w'=>(∃p:Int,e = .returned (.tuple #[.int .i64 p,.int .i64 0]))∧Below W.heap.size W w'))
  (HU:Hid (∀W,Calls Try.prog 7 #[.agg #[.int .i64 (n:Int),.int .i64 a0,.int .i64 a1,.int .i64 b0,.int .i64 b1,.int .i64 c0,.int .i64 c1]] W (GridE W (n:Int) (n:Int) L 0)))
  (HD:Hid (∀W a c,IC W a L.length L→Calls Try.prog 8 #[.agg #[.int .i64 (n:Int),.int .i64 (n:Int),.slice a L.length c]] W fun e w'=>∃a1 c1 a2 c2,
   e = .returned (.tuple #[.agg #[.int .i64 (n:Int),.int .i64 (n:Int),.slice a1 A.length c1],.agg #[.int .i64 (n:Int),.int .i64 (n:Int),.slice a2 B.length c2],.int .i64 0]) ∧
   (IC w' a1 A.length A∧A.length≤c1)∧(IC w' a2 B.length B∧B.length≤c2)∧Below W.heap.size W w'))
  (HLL:L.length≤1000)
  (H1:Hid (∀W,Calls Try.prog 9 #[.agg #[.int .i64 (n:Int),.int .i64 a0,.int .i64 a1,.int .i64 b0,.int .i64 b1,.int .i64 c0,.int .i64 c1],.string ⟨#[115,101,109,105,109,97,103,105,99]⟩] W fun e w'=>e = .returned (.tuple #[.bool sB,.int .i64 0])∧Below W.heap.size W w'))
  (H2:Hid (∀W,Calls Try.prog 9 #[.agg #[.int .i64 (n:Int),.int .i64 a0,.int .i64 a1,.int .i64 b0,.int .i64 b1,.int .i64 c0,.int .i64 c1],.string ⟨#[112,97,110,100,105,97,103,111,110,97,108]⟩] W fun e w'=>e = .returned (.tuple #[.bool pB,.int .i64 0])∧Below W.heap.size W w'))
  (HC:Hid (∀W a c cs er,IC W a cs.length cs→sqE 0 (n:Int) (n:Int) cs=er→Calls Try.prog 10 #[.agg #[.int .i64 (n:Int),.int .i64 (n:Int),.slice a cs.length c]] W fun e w'=>e = .returned (.int .i64 er)∧Below W.heap.size W w'))
  (hA:sqE 0 (n:Int) (n:Int) A=eA) (hA0:eA≠0) (hs:sB=false) (hp:pB=false) :
  Calls Try.prog 3 #[.agg #[.int .i64 (n:Int),.int .i64 a0,.int .i64 a1,.int .i64 b0,.int .i64 b1,.int .i64 c0,.int .i64 c1]] w fun e w'=>e = .returned (.bool true)∧Below w.heap.size w w':=by
 have HP:=Lib.hid (fun W=>pairs_c W)
 have hd:decide ((9:Int)<(n:Int))=false:=decide_eq_false (by omega)
 have he:(eA==0)=false:=by simpa using hA0
 subst hs hp
 replace HS:=HS
 go_enter Try.func3,Try.ntmps3
 go_upto_region 1 with fail
 have fsz:(w.alloc (.cells #[.int .i64 (n:Int),.int .i64 a0,.int .i64 a1,.int .i64 b0,.int .i64 b1,.int .i64 c0,.int .i64 c1] 24)).heap.size=w.heap.size+1:=by simp only[World.size_alloc]
 have fB:Below w.heap.size w (w.alloc (.cells #[.int .i64 (n:Int),.int .i64 a0,.int .i64 a1,.int .i64 b0,.int .i64 b1,.int .i64 c0,.int .i64 c1] 24)):=(Below.refl _ _).alloc (Nat.le_refl _) _
 have fq0:(w.alloc (.cells #[.int .i64 (n:Int),.int .i64 a0,.int .i64 a1,.int .i64 b0,.int .i64 b1,.int .i64 c0,.int .i64 c1] 24)).heap[w.heap.size]?=some (.cells #[.int .i64 (n:Int),.int .i64 a0,.int .i64 a1,.int .i64 b0,.int .i64 b1,.int .i64 c0,.int .i64 c1] 24 (0,0)):=by have h:=World.alloc_heap_new w (.cells #[.int .i64 (n:Int),.int .i64 a0,.int .i64 a1,.int .i64 b0,.int .i64 b1,.int .i64 c0,.int .i64 c1] 24);exact h
 generalize (w.alloc (.cells #[.int .i64 (n:Int),.int .i64 a0,.int .i64 a1,.int .i64 b0,.int .i64 b1,.int .i64 c0,.int .i64 c1] 24))=W0 at fsz fB fq0 ⊢
 have QS:=Lib.hid fq0
 have FB:=Lib.hid fB
 obtain ⟨⟨t0,t1,t2,t3,t4,t5,t6,tl⟩,_⟩:=c7_of fq0
 clear fsz fq0 fB
 go_upto_region 3 with (first|(go_at_call 4;refine (HS.out _).mono ?_;rintro _ w1 ⟨rfl,hb1⟩;clear t0 t1 t2 t3 t4 t5 t6 tl;obtain ⟨⟨t0,t1,t2,t3,t4,t5,t6,tl⟩,_⟩:=c7_of (keepq hb1 QS.out))|fail)
 have U1:=Lib.hid (keep_trans FB.out hb1)
 replace QS:=Lib.hid (keepq hb1 QS.out)
 clear t0 t1 t2 t3 t4 t5 t6 tl;obtain ⟨⟨t0,t1,t2,t3,t4,t5,t6,tl⟩,_⟩:=c7_of QS.out
 clear hb1 FB
 have hq2:decide ((0:Int)<0)=false:=rfl
 go_upto_region 6 with (first|(go_at_call 6;refine (HM.out _).mono ?_;rintro _ w2 ⟨⟨p,rfl⟩,hb2⟩)|fail)
 have U2:=Lib.hid (keep_trans U1.out hb2)
 replace QS:=Lib.hid (keepq hb2 QS.out)
 clear t0 t1 t2 t3 t4 t5 t6 tl;obtain ⟨⟨t0,t1,t2,t3,t4,t5,t6,tl⟩,_⟩:=c7_of QS.out
 clear hb2 U1
 go_upto_region 7 with (first|(go_at_call 7;refine (HU.out _).mono ?_;rintro _ w3 ⟨aL,cL,rfl,hownL,hb3⟩)|fail)
 have hLI:=IC.own hownL rfl (by omega)
 have gsz:(w3.alloc (.cells #[.int .i64 (n:Int),.int .i64 (n:Int),.slice aL L.length cL] 31)).heap.size=w3.heap.size+1:=by simp only[World.size_alloc]
 have gB:Below w3.heap.size w3 (w3.alloc (.cells #[.int .i64 (n:Int),.int .i64 (n:Int),.slice aL L.length cL] 31)):=(Below.refl _ _).alloc (Nat.le_refl _) _
 have gq0:(w3.alloc (.cells #[.int .i64 (n:Int),.int .i64 (n:Int),.slice aL L.length cL] 31)).heap[w3.heap.size]?=some (.cells #[.int .i64 (n:Int),.int .i64 (n:Int),.slice aL L.length cL] 31 (0,0)):=by have h:=World.alloc_heap_new w3 (.cells #[.int .i64 (n:Int),.int .i64 (n:Int),.slice aL L.length cL] 31);exact h
 generalize (w3.alloc (.cells #[.int .i64 (n:Int),.int .i64 (n:Int),.slice aL L.length cL] 31))=W4 at gsz gB gq0 ⊢
 have hk4:=keep_trans hb3 gB
 have U4:=Lib.hid (keep_trans U2.out hk4)
 replace QS:=Lib.hid (keepq hk4 QS.out)
 have HLI:=Lib.hid (hLI.1.mono gB)
 clear t0 t1 t2 t3 t4 t5 t6 tl;
 obtain ⟨x0,x1,x2,xl⟩:=c3_of gq0
 clear gsz gq0 gB hk4 hb3 hownL hLI U2
 go_upto_region 8 with (first|(go_at_call 8;refine (HD.out _ _ _ HLI.out).mono ?_;rintro _ w5 ⟨a1',c1',a2',c2',rfl,hIA,hIB,hb5⟩)|fail)
 have ksz:((w5.alloc (.cells #[.int .i64 (n:Int),.int .i64 (n:Int),.slice a1' A.length c1'] 31)).alloc (.cells #[.int .i64 (n:Int),.int .i64 (n:Int),.slice a2' B.length c2'] 31)).heap.size=w5.heap.size+2:=by simp only[World.size_alloc] <;> omega
 have kB:Below w5.heap.size w5 ((w5.alloc (.cells #[.int .i64 (n:Int),.int .i64 (n:Int),.slice a1' A.length c1'] 31)).alloc (.cells #[.int .i64 (n:Int),.int .i64 (n:Int),.slice a2' B.length c2'] 31)):=((Below.refl _ _).alloc (Nat.le_refl _) _).alloc (by simp only[World.size_alloc];omega) _
 have kq0:((w5.alloc (.cells #[.int .i64 (n:Int),.int .i64 (n:Int),.slice a1' A.length c1'] 31)).alloc (.cells #[.int .i64 (n:Int),.int .i64 (n:Int),.slice a2' B.length c2'] 31)).heap[w5.heap.size]?=some (.cells #[.int .i64 (n:Int),.int .i64 (n:Int),.slice a1' A.length c1'] 31 (0,0)):=by have h:=World.alloc_heap_new w5 (.cells #[.int .i64 (n:Int),.int .i64 (n:Int),.slice a1' A.length c1'] 31);exact (Below.heap_alloc _ _ _ (by simp only[World.size_alloc];omega)).trans (h)
 have kq1:((w5.alloc (.cells #[.int .i64 (n:Int),.int .i64 (n:Int),.slice a1' A.length c1'] 31)).alloc (.cells #[.int .i64 (n:Int),.int .i64 (n:Int),.slice a2' B.length c2'] 31)).heap[w5.heap.size+1]?=some (.cells #[.int .i64 (n:Int),.int .i64 (n:Int),.slice a2' B.length c2'] 31 (0,0)):=by have h:=World.alloc_heap_new (w5.alloc (.cells #[.int .i64 (n:Int),.int .i64 (n:Int),.slice a1' A.length c1'] 31)) (.cells #[.int .i64 (n:Int),.int .i64 (n:Int),.slice a2' B.length c2'] 31);simp only[World.size_alloc] at h;exact h
 generalize ((w5.alloc (.cells #[.int .i64 (n:Int),.int .i64 (n:Int),.slice a1' A.length c1'] 31)).alloc (.cells #[.int .i64 (n:Int),.int .i64 (n:Int),.slice a2' B.length c2'] 31))=W6 at ksz kB kq0 kq1 ⊢
 have hk6:=keep_trans hb5 kB
 have U6:=Lib.hid (keep_trans U4.out hk6)
 replace QS:=Lib.hid (keepq hk6 QS.out)
 have IA:=Lib.hid (hIA.1.mono kB)
 have IB:=Lib.hid (hIB.1.mono kB)
 have CA:=Lib.hid hIA.2
 have CB:=Lib.hid hIB.2
 have QA:=Lib.hid kq0
 have QB:=Lib.hid kq1
 clear ksz kq0 kq1 kB hk6 hb5 hIA hIB U4 HLI x0 x1 x2 xl
 obtain ⟨⟨t0,t1,t2,t3,t4,t5,t6,tl⟩,_⟩:=c7_of QS.out
 go_upto_region 11 with (first|(go_at_call 9;(with_reducible refine (H1.out _).mono ?_);rintro _ w7 ⟨rfl,hb7⟩)|fail)
 replace QS:=Lib.hid (keepq hb7 QS.out)
 clear t0 t1 t2 t3 t4 t5 t6 tl;
 obtain ⟨⟨t0,t1,t2,t3,t4,t5,t6,tl⟩,_⟩:=c7_of QS.out
 go_upto_region 12 with (first|(go_at_call 9;(with_reducible refine (H2.out _).mono ?_);rintro _ w8 ⟨rfl,hb8⟩)|fail)
 have hk8:=keep_trans hb7 hb8
 have U8:=Lib.hid (keep_trans U6.out hk8)
 replace QA:=Lib.hid (keepq hk8 QA.out)
 replace QB:=Lib.hid (keepq hk8 QB.out)
 replace IA:=Lib.hid (IA.out.mono hk8)
 replace IB:=Lib.hid (IB.out.mono hk8)
 clear hb7 hb8 hk8 U6
 clear t0 t1 t2 t3 t4 t5 t6 tl;
 obtain ⟨x0,x1,x2,xl⟩:=c3_of QA.out
 obtain ⟨y0,y1,y2,yl⟩:=c3_of QB.out
 go_wp2_with (first|(go_at_call 10;(with_reducible refine (HC.out _ _ _ A _ IA.out hA).mono ?_);rintro _ v1 ⟨rfl,hv1⟩)|(go_at_call 5;refine (HP.out _).mono ?_;rintro _ w9 ⟨rfl,hb9⟩)|fail)
 go_ret
 exact ⟨rfl,keep_trans (keep_trans U8.out hv1) hb9⟩
theorem ldig_b (n:Nat) (a0 a1 b0 b1 c0 c1:Int) (L A B:List Int) (eB:Int) (sB pB:Bool) (w:World) (HS:Hid (∀W,Calls Try.prog 4 #[.agg #[.int .i64 (n:Int),.int .i64 a0,.int .i64 a1,.int .i64 b0,.int .i64 b1,.int .i64 c0,.int .i64 c1]] W fun e w'=>e = .returned (.int .i64 0)∧Below W.heap.size W w'))
  (h9:n≤9)
  (HM:Hid (∀W,Calls Try.prog 6 #[.agg #[.int .i64 (n:Int),.int .i64 a0,.int .i64 a1,.int .i64 b0,.int .i64 b1,.int .i64 c0,.int .i64 c1]] W fun e w'=>(∃p:Int,e = .returned (.tuple #[.int .i64 p,.int .i64 0]))∧Below W.heap.size W w'))
  (HU:Hid (∀W,Calls Try.prog 7 #[.agg #[.int .i64 (n:Int),.int .i64 a0,.int .i64 a1,.int .i64 b0,.int .i64 b1,.int .i64 c0,.int .i64 c1]] W (GridE W (n:Int) (n:Int) L 0)))
  (HD:Hid (∀W a c,IC W a L.length L→Calls Try.prog 8 #[.agg #[.int .i64 (n:Int),.int .i64 (n:Int),.slice a L.length c]] W fun e w'=>∃a1 c1 a2 c2,
   e = .returned (.tuple #[.agg #[.int .i64 (n:Int),.int .i64 (n:Int),.slice a1 A.length c1],.agg #[.int .i64 (n:Int),.int .i64 (n:Int),.slice a2 B.length c2],.int .i64 0]) ∧
   (IC w' a1 A.length A∧A.length≤c1)∧(IC w' a2 B.length B∧B.length≤c2)∧Below W.heap.size W w'))
  (HLL:L.length≤1000)
  (H1:Hid (∀W,Calls Try.prog 9 #[.agg #[.int .i64 (n:Int),.int .i64 a0,.int .i64 a1,.int .i64 b0,.int .i64 b1,.int .i64 c0,.int .i64 c1],.string ⟨#[115,101,109,105,109,97,103,105,99]⟩] W fun e w'=>e = .returned (.tuple #[.bool sB,.int .i64 0])∧Below W.heap.size W w'))
  (H2:Hid (∀W,Calls Try.prog 9 #[.agg #[.int .i64 (n:Int),.int .i64 a0,.int .i64 a1,.int .i64 b0,.int .i64 b1,.int .i64 c0,.int .i64 c1],.string ⟨#[112,97,110,100,105,97,103,111,110,97,108]⟩] W fun e w'=>e = .returned (.tuple #[.bool pB,.int .i64 0])∧Below W.heap.size W w'))
  (HC:Hid (∀W a c cs er,IC W a cs.length cs→sqE 0 (n:Int) (n:Int) cs=er→Calls Try.prog 10 #[.agg #[.int .i64 (n:Int),.int .i64 (n:Int),.slice a cs.length c]] W fun e w'=>e = .returned (.int .i64 er)∧Below W.heap.size W w'))
  (hA:sqE 0 (n:Int) (n:Int) A=0) (hB:sqE 0 (n:Int) (n:Int) B=eB) (hB0:eB≠0) (hs:sB=false) (hp:pB=false) :
  Calls Try.prog 3 #[.agg #[.int .i64 (n:Int),.int .i64 a0,.int .i64 a1,.int .i64 b0,.int .i64 b1,.int .i64 c0,.int .i64 c1]] w fun e w'=>e = .returned (.bool true)∧Below w.heap.size w w':=by
 have HP:=Lib.hid (fun W=>pairs_c W)
 have hd:decide ((9:Int)<(n:Int))=false:=decide_eq_false (by omega)
 have he:(eB==0)=false:=by simpa using hB0
 subst hs hp
 go_enter Try.func3,Try.ntmps3
 go_upto_region 1 with fail
 have fsz:(w.alloc (.cells #[.int .i64 (n:Int),.int .i64 a0,.int .i64 a1,.int .i64 b0,.int .i64 b1,.int .i64 c0,.int .i64 c1] 24)).heap.size=w.heap.size+1:=by simp only[World.size_alloc]
 have fB:Below w.heap.size w (w.alloc (.cells #[.int .i64 (n:Int),.int .i64 a0,.int .i64 a1,.int .i64 b0,.int .i64 b1,.int .i64 c0,.int .i64 c1] 24)):=(Below.refl _ _).alloc (Nat.le_refl _) _
 have fq0:(w.alloc (.cells #[.int .i64 (n:Int),.int .i64 a0,.int .i64 a1,.int .i64 b0,.int .i64 b1,.int .i64 c0,.int .i64 c1] 24)).heap[w.heap.size]?=some (.cells #[.int .i64 (n:Int),.int .i64 a0,.int .i64 a1,.int .i64 b0,.int .i64 b1,.int .i64 c0,.int .i64 c1] 24 (0,0)):=by have h:=World.alloc_heap_new w (.cells #[.int .i64 (n:Int),.int .i64 a0,.int .i64 a1,.int .i64 b0,.int .i64 b1,.int .i64 c0,.int .i64 c1] 24);exact h
 generalize (w.alloc (.cells #[.int .i64 (n:Int),.int .i64 a0,.int .i64 a1,.int .i64 b0,.int .i64 b1,.int .i64 c0,.int .i64 c1] 24))=W0 at fsz fB fq0 ⊢
 have QS:=Lib.hid fq0
 have FB:=Lib.hid fB
 obtain ⟨⟨t0,t1,t2,t3,t4,t5,t6,tl⟩,_⟩:=c7_of fq0
 clear fsz fq0 fB
 go_upto_region 3 with (first|(go_at_call 4;refine (HS.out _).mono ?_;rintro _ w1 ⟨rfl,hb1⟩;clear t0 t1 t2 t3 t4 t5 t6 tl;obtain ⟨⟨t0,t1,t2,t3,t4,t5,t6,tl⟩,_⟩:=c7_of (keepq hb1 QS.out))|fail)
 have U1:=Lib.hid (keep_trans FB.out hb1)
 replace QS:=Lib.hid (keepq hb1 QS.out)
 clear t0 t1 t2 t3 t4 t5 t6 tl;obtain ⟨⟨t0,t1,t2,t3,t4,t5,t6,tl⟩,_⟩:=c7_of QS.out
 clear hb1 FB
 have hq2:decide ((0:Int)<0)=false:=rfl
 go_upto_region 6 with (first|(go_at_call 6;refine (HM.out _).mono ?_;rintro _ w2 ⟨⟨p,rfl⟩,hb2⟩)|fail)
 have U2:=Lib.hid (keep_trans U1.out hb2)
 replace QS:=Lib.hid (keepq hb2 QS.out)
 clear t0 t1 t2 t3 t4 t5 t6 tl;obtain ⟨⟨t0,t1,t2,t3,t4,t5,t6,tl⟩,_⟩:=c7_of QS.out
 clear hb2 U1
 go_upto_region 7 with (first|(go_at_call 7;refine (HU.out _).mono ?_;rintro _ w3 ⟨aL,cL,rfl,hownL,hb3⟩)|fail)
 have hLI:=IC.own hownL rfl (by omega)
 have gsz:(w3.alloc (.cells #[.int .i64 (n:Int),.int .i64 (n:Int),.slice aL L.length cL] 31)).heap.size=w3.heap.size+1:=by simp only[World.size_alloc]
 have gB:Below w3.heap.size w3 (w3.alloc (.cells #[.int .i64 (n:Int),.int .i64 (n:Int),.slice aL L.length cL] 31)):=(Below.refl _ _).alloc (Nat.le_refl _) _
 have gq0:(w3.alloc (.cells #[.int .i64 (n:Int),.int .i64 (n:Int),.slice aL L.length cL] 31)).heap[w3.heap.size]?=some (.cells #[.int .i64 (n:Int),.int .i64 (n:Int),.slice aL L.length cL] 31 (0,0)):=by have h:=World.alloc_heap_new w3 (.cells #[.int .i64 (n:Int),.int .i64 (n:Int),.slice aL L.length cL] 31);exact h
 generalize (w3.alloc (.cells #[.int .i64 (n:Int),.int .i64 (n:Int),.slice aL L.length cL] 31))=W4 at gsz gB gq0 ⊢
 have hk4:=keep_trans hb3 gB
 have U4:=Lib.hid (keep_trans U2.out hk4)
 replace QS:=Lib.hid (keepq hk4 QS.out)
 have HLI:=Lib.hid (hLI.1.mono gB)
 clear t0 t1 t2 t3 t4 t5 t6 tl;
 obtain ⟨x0,x1,x2,xl⟩:=c3_of gq0
 clear gsz gq0 gB hk4 hb3 hownL hLI U2
 go_upto_region 8 with (first|(go_at_call 8;refine (HD.out _ _ _ HLI.out).mono ?_;rintro _ w5 ⟨a1',c1',a2',c2',rfl,hIA,hIB,hb5⟩)|fail)
 have ksz:((w5.alloc (.cells #[.int .i64 (n:Int),.int .i64 (n:Int),.slice a1' A.length c1'] 31)).alloc (.cells #[.int .i64 (n:Int),.int .i64 (n:Int),.slice a2' B.length c2'] 31)).heap.size=w5.heap.size+2:=by simp only[World.size_alloc] <;> omega
 have kB:Below w5.heap.size w5 ((w5.alloc (.cells #[.int .i64 (n:Int),.int .i64 (n:Int),.slice a1' A.length c1'] 31)).alloc (.cells #[.int .i64 (n:Int),.int .i64 (n:Int),.slice a2' B.length c2'] 31)):=((Below.refl _ _).alloc (Nat.le_refl _) _).alloc (by simp only[World.size_alloc];omega) _
 have kq0:((w5.alloc (.cells #[.int .i64 (n:Int),.int .i64 (n:Int),.slice a1' A.length c1'] 31)).alloc (.cells #[.int .i64 (n:Int),.int .i64 (n:Int),.slice a2' B.length c2'] 31)).heap[w5.heap.size]?=some (.cells #[.int .i64 (n:Int),.int .i64 (n:Int),.slice a1' A.length c1'] 31 (0,0)):=by have h:=World.alloc_heap_new w5 (.cells #[.int .i64 (n:Int),.int .i64 (n:Int),.slice a1' A.length c1'] 31);exact (Below.heap_alloc _ _ _ (by simp only[World.size_alloc];omega)).trans (h)
 have kq1:((w5.alloc (.cells #[.int .i64 (n:Int),.int .i64 (n:Int),.slice a1' A.length c1'] 31)).alloc (.cells #[.int .i64 (n:Int),.int .i64 (n:Int),.slice a2' B.length c2'] 31)).heap[w5.heap.size+1]?=some (.cells #[.int .i64 (n:Int),.int .i64 (n:Int),.slice a2' B.length c2'] 31 (0,0)):=by have h:=World.alloc_heap_new (w5.alloc (.cells #[.int .i64 (n:Int),.int .i64 (n:Int),.slice a1' A.length c1'] 31)) (.cells #[.int .i64 (n:Int),.int .i64 (n:Int),.slice a2' B.length c2'] 31);simp only[World.size_alloc] at h;exact h
 generalize ((w5.alloc (.cells #[.int .i64 (n:Int),.int .i64 (n:Int),.slice a1' A.length c1'] 31)).alloc (.cells #[.int .i64 (n:Int),.int .i64 (n:Int),.slice a2' B.length c2'] 31))=W6 at ksz kB kq0 kq1 ⊢
 have hk6:=keep_trans hb5 kB
 have U6:=Lib.hid (keep_trans U4.out hk6)
 replace QS:=Lib.hid (keepq hk6 QS.out)
 have IA:=Lib.hid (hIA.1.mono kB)
 have IB:=Lib.hid (hIB.1.mono kB)
 have CA:=Lib.hid hIA.2
 have CB:=Lib.hid hIB.2
 have QA:=Lib.hid kq0
 have QB:=Lib.hid kq1
 clear ksz kq0 kq1 kB hk6 hb5 hIA hIB U4 HLI x0 x1 x2 xl
 obtain ⟨⟨t0,t1,t2,t3,t4,t5,t6,tl⟩,_⟩:=c7_of QS.out
 go_upto_region 11 with (first|(go_at_call 9;(with_reducible refine (H1.out _).mono ?_);rintro _ w7 ⟨rfl,hb7⟩)|fail)
 replace QS:=Lib.hid (keepq hb7 QS.out)
 clear t0 t1 t2 t3 t4 t5 t6 tl;
 obtain ⟨⟨t0,t1,t2,t3,t4,t5,t6,tl⟩,_⟩:=c7_of QS.out
 go_upto_region 12 with (first|(go_at_call 9;(with_reducible refine (H2.out _).mono ?_);rintro _ w8 ⟨rfl,hb8⟩)|fail)
 have hk8:=keep_trans hb7 hb8
 have U8:=Lib.hid (keep_trans U6.out hk8)
 replace QA:=Lib.hid (keepq hk8 QA.out)
 replace QB:=Lib.hid (keepq hk8 QB.out)
 replace IA:=Lib.hid (IA.out.mono hk8)
 replace IB:=Lib.hid (IB.out.mono hk8)
 clear hb7 hb8 hk8 U6
 clear t0 t1 t2 t3 t4 t5 t6 tl;
 obtain ⟨x0,x1,x2,xl⟩:=c3_of QA.out
 obtain ⟨y0,y1,y2,yl⟩:=c3_of QB.out
 go_wp2_with (first|(go_at_call 10;(with_reducible refine (HC.out _ _ _ B _ IBv hB).mono ?_);rintro _ v2 ⟨rfl,hv2⟩)|(go_at_call 10;(with_reducible refine (HC.out _ _ _ A _ IA.out hA).mono ?_);rintro _ v1 ⟨rfl,hv1⟩;clear x0 x1 x2 xl y0 y1 y2 yl;obtain ⟨y0,y1,y2,yl⟩:=c3_of (keepq hv1 QB.out);have IBv:=IB.out.mono hv1)|(go_at_call 5;refine (HP.out _).mono ?_;rintro _ w9 ⟨rfl,hb9⟩)|fail)
 go_ret
 exact ⟨rfl,keep_trans (keep_trans (keep_trans U8.out hv1) hv2) hb9⟩
theorem ldig_c (n:Nat) (a0 a1 b0 b1 c0 c1:Int) (L A B:List Int) (sB pB:Bool) (w:World) (HS:Hid (∀W,Calls Try.prog 4 #[.agg #[.int .i64 (n:Int),.int .i64 a0,.int .i64 a1,.int .i64 b0,.int .i64 b1,.int .i64 c0,.int .i64 c1]] W fun e w'=>e = .returned (.int .i64 0)∧Below W.heap.size W w'))
  (h9:n≤9)
  (HM:Hid (∀W,Calls Try.prog 6 #[.agg #[.int .i64 (n:Int),.int .i64 a0,.int .i64 a1,.int .i64 b0,.int .i64 b1,.int .i64 c0,.int .i64 c1]] W fun e w'=>(∃p:Int,e = .returned (.tuple #[.int .i64 p,.int .i64 0]))∧Below W.heap.size W w'))
  (HU:Hid (∀W,Calls Try.prog 7 #[.agg #[.int .i64 (n:Int),.int .i64 a0,.int .i64 a1,.int .i64 b0,.int .i64 b1,.int .i64 c0,.int .i64 c1]] W (GridE W (n:Int) (n:Int) L 0)))
  (HD:Hid (∀W a c,IC W a L.length L→Calls Try.prog 8 #[.agg #[.int .i64 (n:Int),.int .i64 (n:Int),.slice a L.length c]] W fun e w'=>∃a1 c1 a2 c2,
   e = .returned (.tuple #[.agg #[.int .i64 (n:Int),.int .i64 (n:Int),.slice a1 A.length c1],.agg #[.int .i64 (n:Int),.int .i64 (n:Int),.slice a2 B.length c2],.int .i64 0]) ∧
   (IC w' a1 A.length A∧A.length≤c1)∧(IC w' a2 B.length B∧B.length≤c2)∧Below W.heap.size W w'))
  (HLL:L.length≤1000)
  (H1:Hid (∀W,Calls Try.prog 9 #[.agg #[.int .i64 (n:Int),.int .i64 a0,.int .i64 a1,.int .i64 b0,.int .i64 b1,.int .i64 c0,.int .i64 c1],.string ⟨#[115,101,109,105,109,97,103,105,99]⟩] W fun e w'=>e = .returned (.tuple #[.bool sB,.int .i64 0])∧Below W.heap.size W w'))
  (H2:Hid (∀W,Calls Try.prog 9 #[.agg #[.int .i64 (n:Int),.int .i64 a0,.int .i64 a1,.int .i64 b0,.int .i64 b1,.int .i64 c0,.int .i64 c1],.string ⟨#[112,97,110,100,105,97,103,111,110,97,108]⟩] W fun e w'=>e = .returned (.tuple #[.bool pB,.int .i64 0])∧Below W.heap.size W w'))
  (HC:Hid (∀W a c cs er,IC W a cs.length cs→sqE 0 (n:Int) (n:Int) cs=er→Calls Try.prog 10 #[.agg #[.int .i64 (n:Int),.int .i64 (n:Int),.slice a cs.length c]] W fun e w'=>e = .returned (.int .i64 er)∧Below W.heap.size W w'))
  (hA:sqE 0 (n:Int) (n:Int) A=0) (hB:sqE 0 (n:Int) (n:Int) B=0) (hs:sB=true)
  (HO:Hid (∀W a c a2 c2,IC W a A.length A→IC W a2 B.length B→Calls Try.prog 11 #[.agg #[.int .i64 (n:Int),.int .i64 (n:Int),.slice a A.length c],.agg #[.int .i64 (n:Int),.int .i64 (n:Int),.slice a2 B.length c2]] W fun e w'=>e = .returned (.tuple #[.bool true,.int .i64 0])∧Below W.heap.size W w'))
  (KA KB:List ByteArray)
  (HKA:Hid (∀W a c,IC W a A.length A→A.length≤c→Calls Try.prog 12 #[.agg #[.int .i64 (n:Int),.int .i64 (n:Int),.slice a A.length c]] W fun e w'=>∃a c,e = .returned (.tuple #[.slice a KA.length c,.int .i64 0])∧SC w' a KA.length KA∧Below W.heap.size W w'))
  (HKB:Hid (∀W a c,IC W a B.length B→B.length≤c→Calls Try.prog 12 #[.agg #[.int .i64 (n:Int),.int .i64 (n:Int),.slice a B.length c]] W fun e w'=>∃a c,e = .returned (.tuple #[.slice a KB.length c,.int .i64 0])∧SC w' a KB.length KB∧Below W.heap.size W w'))
  (hpa:KA.any isPan=false) (hp:pB=false) :
  Calls Try.prog 3 #[.agg #[.int .i64 (n:Int),.int .i64 a0,.int .i64 a1,.int .i64 b0,.int .i64 b1,.int .i64 c0,.int .i64 c1]] w fun e w'=>e = .returned (.bool true)∧Below w.heap.size w w':=by
 have HP:=Lib.hid (fun W=>pairs_c W)
 have hd:decide ((9:Int)<(n:Int))=false:=decide_eq_false (by omega)
 subst hs
 have HIN:=Lib.hid (fun a c l W (h:SC W a l.length l)=>loomin_c a l.length c l W h)
 subst hp
 have HPA:=Lib.hid hpa
 clear hpa
 go_enter Try.func3,Try.ntmps3
 go_upto_region 1 with fail
 have fsz:(w.alloc (.cells #[.int .i64 (n:Int),.int .i64 a0,.int .i64 a1,.int .i64 b0,.int .i64 b1,.int .i64 c0,.int .i64 c1] 24)).heap.size=w.heap.size+1:=by simp only[World.size_alloc]
 have fB:Below w.heap.size w (w.alloc (.cells #[.int .i64 (n:Int),.int .i64 a0,.int .i64 a1,.int .i64 b0,.int .i64 b1,.int .i64 c0,.int .i64 c1] 24)):=(Below.refl _ _).alloc (Nat.le_refl _) _
 have fq0:(w.alloc (.cells #[.int .i64 (n:Int),.int .i64 a0,.int .i64 a1,.int .i64 b0,.int .i64 b1,.int .i64 c0,.int .i64 c1] 24)).heap[w.heap.size]?=some (.cells #[.int .i64 (n:Int),.int .i64 a0,.int .i64 a1,.int .i64 b0,.int .i64 b1,.int .i64 c0,.int .i64 c1] 24 (0,0)):=by have h:=World.alloc_heap_new w (.cells #[.int .i64 (n:Int),.int .i64 a0,.int .i64 a1,.int .i64 b0,.int .i64 b1,.int .i64 c0,.int .i64 c1] 24);exact h
 generalize (w.alloc (.cells #[.int .i64 (n:Int),.int .i64 a0,.int .i64 a1,.int .i64 b0,.int .i64 b1,.int .i64 c0,.int .i64 c1] 24))=W0 at fsz fB fq0 ⊢
 have QS:=Lib.hid fq0
 have FB:=Lib.hid fB
 obtain ⟨⟨t0,t1,t2,t3,t4,t5,t6,tl⟩,_⟩:=c7_of fq0
 clear fsz fq0 fB
 go_upto_region 3 with (first|(go_at_call 4;refine (HS.out _).mono ?_;rintro _ w1 ⟨rfl,hb1⟩;clear t0 t1 t2 t3 t4 t5 t6 tl;obtain ⟨⟨t0,t1,t2,t3,t4,t5,t6,tl⟩,_⟩:=c7_of (keepq hb1 QS.out))|fail)
 have U1:=Lib.hid (keep_trans FB.out hb1)
 replace QS:=Lib.hid (keepq hb1 QS.out)
 clear t0 t1 t2 t3 t4 t5 t6 tl;obtain ⟨⟨t0,t1,t2,t3,t4,t5,t6,tl⟩,_⟩:=c7_of QS.out
 clear hb1 FB
 have hq2:decide ((0:Int)<0)=false:=rfl
 go_upto_region 6 with (first|(go_at_call 6;refine (HM.out _).mono ?_;rintro _ w2 ⟨⟨p,rfl⟩,hb2⟩)|fail)
 have U2:=Lib.hid (keep_trans U1.out hb2)
 replace QS:=Lib.hid (keepq hb2 QS.out)
 clear t0 t1 t2 t3 t4 t5 t6 tl;obtain ⟨⟨t0,t1,t2,t3,t4,t5,t6,tl⟩,_⟩:=c7_of QS.out
 clear hb2 U1
 go_upto_region 7 with (first|(go_at_call 7;refine (HU.out _).mono ?_;rintro _ w3 ⟨aL,cL,rfl,hownL,hb3⟩)|fail)
 have hLI:=IC.own hownL rfl (by omega)
 have gsz:(w3.alloc (.cells #[.int .i64 (n:Int),.int .i64 (n:Int),.slice aL L.length cL] 31)).heap.size=w3.heap.size+1:=by simp only[World.size_alloc]
 have gB:Below w3.heap.size w3 (w3.alloc (.cells #[.int .i64 (n:Int),.int .i64 (n:Int),.slice aL L.length cL] 31)):=(Below.refl _ _).alloc (Nat.le_refl _) _
 have gq0:(w3.alloc (.cells #[.int .i64 (n:Int),.int .i64 (n:Int),.slice aL L.length cL] 31)).heap[w3.heap.size]?=some (.cells #[.int .i64 (n:Int),.int .i64 (n:Int),.slice aL L.length cL] 31 (0,0)):=by have h:=World.alloc_heap_new w3 (.cells #[.int .i64 (n:Int),.int .i64 (n:Int),.slice aL L.length cL] 31);exact h
 generalize (w3.alloc (.cells #[.int .i64 (n:Int),.int .i64 (n:Int),.slice aL L.length cL] 31))=W4 at gsz gB gq0 ⊢
 have hk4:=keep_trans hb3 gB
 have U4:=Lib.hid (keep_trans U2.out hk4)
 replace QS:=Lib.hid (keepq hk4 QS.out)
 have HLI:=Lib.hid (hLI.1.mono gB)
 clear t0 t1 t2 t3 t4 t5 t6 tl;
 obtain ⟨x0,x1,x2,xl⟩:=c3_of gq0
 clear gsz gq0 gB hk4 hb3 hownL hLI U2
 go_upto_region 8 with (first|(go_at_call 8;refine (HD.out _ _ _ HLI.out).mono ?_;rintro _ w5 ⟨a1',c1',a2',c2',rfl,hIA,hIB,hb5⟩)|fail)
 have ksz:((w5.alloc (.cells #[.int .i64 (n:Int),.int .i64 (n:Int),.slice a1' A.length c1'] 31)).alloc (.cells #[.int .i64 (n:Int),.int .i64 (n:Int),.slice a2' B.length c2'] 31)).heap.size=w5.heap.size+2:=by simp only[World.size_alloc] <;> omega
 have kB:Below w5.heap.size w5 ((w5.alloc (.cells #[.int .i64 (n:Int),.int .i64 (n:Int),.slice a1' A.length c1'] 31)).alloc (.cells #[.int .i64 (n:Int),.int .i64 (n:Int),.slice a2' B.length c2'] 31)):=((Below.refl _ _).alloc (Nat.le_refl _) _).alloc (by simp only[World.size_alloc];omega) _
 have kq0:((w5.alloc (.cells #[.int .i64 (n:Int),.int .i64 (n:Int),.slice a1' A.length c1'] 31)).alloc (.cells #[.int .i64 (n:Int),.int .i64 (n:Int),.slice a2' B.length c2'] 31)).heap[w5.heap.size]?=some (.cells #[.int .i64 (n:Int),.int .i64 (n:Int),.slice a1' A.length c1'] 31 (0,0)):=by have h:=World.alloc_heap_new w5 (.cells #[.int .i64 (n:Int),.int .i64 (n:Int),.slice a1' A.length c1'] 31);exact (Below.heap_alloc _ _ _ (by simp only[World.size_alloc];omega)).trans (h)
 have kq1:((w5.alloc (.cells #[.int .i64 (n:Int),.int .i64 (n:Int),.slice a1' A.length c1'] 31)).alloc (.cells #[.int .i64 (n:Int),.int .i64 (n:Int),.slice a2' B.length c2'] 31)).heap[w5.heap.size+1]?=some (.cells #[.int .i64 (n:Int),.int .i64 (n:Int),.slice a2' B.length c2'] 31 (0,0)):=by have h:=World.alloc_heap_new (w5.alloc (.cells #[.int .i64 (n:Int),.int .i64 (n:Int),.slice a1' A.length c1'] 31)) (.cells #[.int .i64 (n:Int),.int .i64 (n:Int),.slice a2' B.length c2'] 31);simp only[World.size_alloc] at h;exact h
 generalize ((w5.alloc (.cells #[.int .i64 (n:Int),.int .i64 (n:Int),.slice a1' A.length c1'] 31)).alloc (.cells #[.int .i64 (n:Int),.int .i64 (n:Int),.slice a2' B.length c2'] 31))=W6 at ksz kB kq0 kq1 ⊢
 have hk6:=keep_trans hb5 kB
 have U6:=Lib.hid (keep_trans U4.out hk6)
 replace QS:=Lib.hid (keepq hk6 QS.out)
 have IA:=Lib.hid (hIA.1.mono kB)
 have IB:=Lib.hid (hIB.1.mono kB)
 have CA:=Lib.hid hIA.2
 have CB:=Lib.hid hIB.2
 have QA:=Lib.hid kq0
 have QB:=Lib.hid kq1
 clear ksz kq0 kq1 kB hk6 hb5 hIA hIB U4 HLI x0 x1 x2 xl
 obtain ⟨⟨t0,t1,t2,t3,t4,t5,t6,tl⟩,_⟩:=c7_of QS.out
 go_upto_region 11 with (first|(go_at_call 9;(with_reducible refine (H1.out _).mono ?_);rintro _ w7 ⟨rfl,hb7⟩)|fail)
 replace QS:=Lib.hid (keepq hb7 QS.out)
 clear t0 t1 t2 t3 t4 t5 t6 tl;
 obtain ⟨⟨t0,t1,t2,t3,t4,t5,t6,tl⟩,_⟩:=c7_of QS.out
 go_upto_region 12 with (first|(go_at_call 9;(with_reducible refine (H2.out _).mono ?_);rintro _ w8 ⟨rfl,hb8⟩)|fail)
 have hk8:=keep_trans hb7 hb8
 have U8:=Lib.hid (keep_trans U6.out hk8)
 replace QA:=Lib.hid (keepq hk8 QA.out)
 replace QB:=Lib.hid (keepq hk8 QB.out)
 replace IA:=Lib.hid (IA.out.mono hk8)
 replace IB:=Lib.hid (IB.out.mono hk8)
 clear hb7 hb8 hk8 U6
 clear t0 t1 t2 t3 t4 t5 t6 tl;
 obtain ⟨x0,x1,x2,xl⟩:=c3_of QA.out
 obtain ⟨y0,y1,y2,yl⟩:=c3_of QB.out
 go_upto_region 17 with (first|(go_at_call 10;(with_reducible refine (HC.out _ _ _ B _ IBv hB).mono ?_);rintro _ v2 ⟨rfl,hv2⟩)|(go_at_call 10;(with_reducible refine (HC.out _ _ _ A _ IA.out hA).mono ?_);rintro _ v1 ⟨rfl,hv1⟩;clear x0 x1 x2 xl y0 y1 y2 yl;obtain ⟨y0,y1,y2,yl⟩:=c3_of (keepq hv1 QB.out);have IBv:=IB.out.mono hv1)|fail)
 have hk9:=keep_trans hv1 hv2
 have U9:=Lib.hid (keep_trans U8.out hk9)
 replace QA:=Lib.hid (keepq hk9 QA.out)
 replace QB:=Lib.hid (keepq hk9 QB.out)
 replace IA:=Lib.hid (IA.out.mono hk9)
 replace IB:=Lib.hid (IB.out.mono hk9)
 clear hv1 hv2 hk9 U8 y0 y1 y2 yl IBv
 obtain ⟨x0,x1,x2,xl⟩:=c3_of QA.out
 obtain ⟨y0,y1,y2,yl⟩:=c3_of QB.out
 go_upto_region 18 with (first|(go_at_call 11;refine (HO.out _ _ _ _ _ IA.out IB.out).mono ?_;rintro _ v3 ⟨rfl,hv3⟩)|fail)
 have U10:=Lib.hid (keep_trans U9.out hv3)
 replace QA:=Lib.hid (keepq hv3 QA.out)
 replace QB:=Lib.hid (keepq hv3 QB.out)
 replace IA:=Lib.hid (IA.out.mono hv3)
 replace IB:=Lib.hid (IB.out.mono hv3)
 clear hv3 U9 x0 x1 x2 xl y0 y1 y2 yl
 obtain ⟨x0,x1,x2,xl⟩:=c3_of QA.out
 go_upto_region 19 with (first|(go_at_call 12;refine (HKA.out _ _ _ IA.out CA.out).mono ?_;rintro _ v4 ⟨ak,ck,rfl,hsk,hv4⟩)|fail)
 have U11:=Lib.hid (keep_trans U10.out hv4)
 replace QB:=Lib.hid (keepq hv4 QB.out)
 replace IB:=Lib.hid (IB.out.mono hv4)
 have SA:=Lib.hid hsk
 clear hv4 U10 x0 x1 x2 xl hsk
 obtain ⟨y0,y1,y2,yl⟩:=c3_of QB.out
 go_upto_region 20 with (first|(go_at_call 12;refine (HKB.out _ _ _ IB.out CB.out).mono ?_;rintro _ v5 ⟨al,cl,rfl,hsl,hv5⟩)|fail)
 have U12:=Lib.hid (keep_trans U11.out hv5)
 replace SA:=Lib.hid (SA.out.mono hv5)
 have SB:=Lib.hid hsl
 clear hv5 U11 y0 y1 y2 yl hsl
 go_wp2_with (first|(go_at_call 13;(with_reducible refine (HIN.out _ _ KA _ SA.out).mono ?_);rintro _ v6 ⟨rfl,hv6⟩;rw[HPA.out])|(go_at_call 5;refine (HP.out _).mono ?_;rintro _ w9 ⟨rfl,hb9⟩)|fail)
 go_ret
 exact ⟨rfl,keep_trans (keep_trans U12.out hv6) hb9⟩
theorem ldig_d (n:Nat) (a0 a1 b0 b1 c0 c1:Int) (L A B:List Int) (sB pB:Bool) (w:World) (HS:Hid (∀W,Calls Try.prog 4 #[.agg #[.int .i64 (n:Int),.int .i64 a0,.int .i64 a1,.int .i64 b0,.int .i64 b1,.int .i64 c0,.int .i64 c1]] W fun e w'=>e = .returned (.int .i64 0)∧Below W.heap.size W w'))
  (h9:n≤9)
  (HM:Hid (∀W,Calls Try.prog 6 #[.agg #[.int .i64 (n:Int),.int .i64 a0,.int .i64 a1,.int .i64 b0,.int .i64 b1,.int .i64 c0,.int .i64 c1]] W fun e w'=>(∃p:Int,e = .returned (.tuple #[.int .i64 p,.int .i64 0]))∧Below W.heap.size W w'))
  (HU:Hid (∀W,Calls Try.prog 7 #[.agg #[.int .i64 (n:Int),.int .i64 a0,.int .i64 a1,.int .i64 b0,.int .i64 b1,.int .i64 c0,.int .i64 c1]] W (GridE W (n:Int) (n:Int) L 0)))
  (HD:Hid (∀W a c,IC W a L.length L→Calls Try.prog 8 #[.agg #[.int .i64 (n:Int),.int .i64 (n:Int),.slice a L.length c]] W fun e w'=>∃a1 c1 a2 c2,
   e = .returned (.tuple #[.agg #[.int .i64 (n:Int),.int .i64 (n:Int),.slice a1 A.length c1],.agg #[.int .i64 (n:Int),.int .i64 (n:Int),.slice a2 B.length c2],.int .i64 0]) ∧
   (IC w' a1 A.length A∧A.length≤c1)∧(IC w' a2 B.length B∧B.length≤c2)∧Below W.heap.size W w'))
  (HLL:L.length≤1000)
  (H1:Hid (∀W,Calls Try.prog 9 #[.agg #[.int .i64 (n:Int),.int .i64 a0,.int .i64 a1,.int .i64 b0,.int .i64 b1,.int .i64 c0,.int .i64 c1],.string ⟨#[115,101,109,105,109,97,103,105,99]⟩] W fun e w'=>e = .returned (.tuple #[.bool sB,.int .i64 0])∧Below W.heap.size W w'))
  (H2:Hid (∀W,Calls Try.prog 9 #[.agg #[.int .i64 (n:Int),.int .i64 a0,.int .i64 a1,.int .i64 b0,.int .i64 b1,.int .i64 c0,.int .i64 c1],.string ⟨#[112,97,110,100,105,97,103,111,110,97,108]⟩] W fun e w'=>e = .returned (.tuple #[.bool pB,.int .i64 0])∧Below W.heap.size W w'))
  (HC:Hid (∀W a c cs er,IC W a cs.length cs→sqE 0 (n:Int) (n:Int) cs=er→Calls Try.prog 10 #[.agg #[.int .i64 (n:Int),.int .i64 (n:Int),.slice a cs.length c]] W fun e w'=>e = .returned (.int .i64 er)∧Below W.heap.size W w'))
  (hA:sqE 0 (n:Int) (n:Int) A=0) (hB:sqE 0 (n:Int) (n:Int) B=0) (hs:sB=true)
  (HO:Hid (∀W a c a2 c2,IC W a A.length A→IC W a2 B.length B→Calls Try.prog 11 #[.agg #[.int .i64 (n:Int),.int .i64 (n:Int),.slice a A.length c],.agg #[.int .i64 (n:Int),.int .i64 (n:Int),.slice a2 B.length c2]] W fun e w'=>e = .returned (.tuple #[.bool true,.int .i64 0])∧Below W.heap.size W w'))
  (KA KB:List ByteArray)
  (HKA:Hid (∀W a c,IC W a A.length A→A.length≤c→Calls Try.prog 12 #[.agg #[.int .i64 (n:Int),.int .i64 (n:Int),.slice a A.length c]] W fun e w'=>∃a c,e = .returned (.tuple #[.slice a KA.length c,.int .i64 0])∧SC w' a KA.length KA∧Below W.heap.size W w'))
  (HKB:Hid (∀W a c,IC W a B.length B→B.length≤c→Calls Try.prog 12 #[.agg #[.int .i64 (n:Int),.int .i64 (n:Int),.slice a B.length c]] W fun e w'=>∃a c,e = .returned (.tuple #[.slice a KB.length c,.int .i64 0])∧SC w' a KB.length KB∧Below W.heap.size W w'))
  (hpa:KA.any isPan=true) (hp:pB=KB.any isPan) :
  Calls Try.prog 3 #[.agg #[.int .i64 (n:Int),.int .i64 a0,.int .i64 a1,.int .i64 b0,.int .i64 b1,.int .i64 c0,.int .i64 c1]] w fun e w'=>e = .returned (.bool true)∧Below w.heap.size w w':=by
 have HP:=Lib.hid (fun W=>pairs_c W)
 have hd:decide ((9:Int)<(n:Int))=false:=decide_eq_false (by omega)
 subst hs
 have HIN:=Lib.hid (fun a c l W (h:SC W a l.length l)=>loomin_c a l.length c l W h)
 obtain ⟨q,hq⟩:∃q,q=KB.any isPan:=⟨_,rfl⟩
 rw[← hq] at hp
 subst hp
 have hqq:(pB==pB)=true:=by simp
 have HQB:=Lib.hid hq
 have HPA:=Lib.hid hpa
 clear hq hpa
 go_enter Try.func3,Try.ntmps3
 go_upto_region 1 with fail
 have fsz:(w.alloc (.cells #[.int .i64 (n:Int),.int .i64 a0,.int .i64 a1,.int .i64 b0,.int .i64 b1,.int .i64 c0,.int .i64 c1] 24)).heap.size=w.heap.size+1:=by simp only[World.size_alloc]
 have fB:Below w.heap.size w (w.alloc (.cells #[.int .i64 (n:Int),.int .i64 a0,.int .i64 a1,.int .i64 b0,.int .i64 b1,.int .i64 c0,.int .i64 c1] 24)):=(Below.refl _ _).alloc (Nat.le_refl _) _
 have fq0:(w.alloc (.cells #[.int .i64 (n:Int),.int .i64 a0,.int .i64 a1,.int .i64 b0,.int .i64 b1,.int .i64 c0,.int .i64 c1] 24)).heap[w.heap.size]?=some (.cells #[.int .i64 (n:Int),.int .i64 a0,.int .i64 a1,.int .i64 b0,.int .i64 b1,.int .i64 c0,.int .i64 c1] 24 (0,0)):=by have h:=World.alloc_heap_new w (.cells #[.int .i64 (n:Int),.int .i64 a0,.int .i64 a1,.int .i64 b0,.int .i64 b1,.int .i64 c0,.int .i64 c1] 24);exact h
 generalize (w.alloc (.cells #[.int .i64 (n:Int),.int .i64 a0,.int .i64 a1,.int .i64 b0,.int .i64 b1,.int .i64 c0,.int .i64 c1] 24))=W0 at fsz fB fq0 ⊢
 have QS:=Lib.hid fq0
 have FB:=Lib.hid fB
 obtain ⟨⟨t0,t1,t2,t3,t4,t5,t6,tl⟩,_⟩:=c7_of fq0
 clear fsz fq0 fB
 go_upto_region 3 with (first|(go_at_call 4;refine (HS.out _).mono ?_;rintro _ w1 ⟨rfl,hb1⟩;clear t0 t1 t2 t3 t4 t5 t6 tl;obtain ⟨⟨t0,t1,t2,t3,t4,t5,t6,tl⟩,_⟩:=c7_of (keepq hb1 QS.out))|fail)
 have U1:=Lib.hid (keep_trans FB.out hb1)
 replace QS:=Lib.hid (keepq hb1 QS.out)
 clear t0 t1 t2 t3 t4 t5 t6 tl;obtain ⟨⟨t0,t1,t2,t3,t4,t5,t6,tl⟩,_⟩:=c7_of QS.out
 clear hb1 FB
 have hq2:decide ((0:Int)<0)=false:=rfl
 go_upto_region 6 with (first|(go_at_call 6;refine (HM.out _).mono ?_;rintro _ w2 ⟨⟨p,rfl⟩,hb2⟩)|fail)
 have U2:=Lib.hid (keep_trans U1.out hb2)
 replace QS:=Lib.hid (keepq hb2 QS.out)
 clear t0 t1 t2 t3 t4 t5 t6 tl;obtain ⟨⟨t0,t1,t2,t3,t4,t5,t6,tl⟩,_⟩:=c7_of QS.out
 clear hb2 U1
 go_upto_region 7 with (first|(go_at_call 7;refine (HU.out _).mono ?_;rintro _ w3 ⟨aL,cL,rfl,hownL,hb3⟩)|fail)
 have hLI:=IC.own hownL rfl (by omega)
 have gsz:(w3.alloc (.cells #[.int .i64 (n:Int),.int .i64 (n:Int),.slice aL L.length cL] 31)).heap.size=w3.heap.size+1:=by simp only[World.size_alloc]
 have gB:Below w3.heap.size w3 (w3.alloc (.cells #[.int .i64 (n:Int),.int .i64 (n:Int),.slice aL L.length cL] 31)):=(Below.refl _ _).alloc (Nat.le_refl _) _
 have gq0:(w3.alloc (.cells #[.int .i64 (n:Int),.int .i64 (n:Int),.slice aL L.length cL] 31)).heap[w3.heap.size]?=some (.cells #[.int .i64 (n:Int),.int .i64 (n:Int),.slice aL L.length cL] 31 (0,0)):=by have h:=World.alloc_heap_new w3 (.cells #[.int .i64 (n:Int),.int .i64 (n:Int),.slice aL L.length cL] 31);exact h
 generalize (w3.alloc (.cells #[.int .i64 (n:Int),.int .i64 (n:Int),.slice aL L.length cL] 31))=W4 at gsz gB gq0 ⊢
 have hk4:=keep_trans hb3 gB
 have U4:=Lib.hid (keep_trans U2.out hk4)
 replace QS:=Lib.hid (keepq hk4 QS.out)
 have HLI:=Lib.hid (hLI.1.mono gB)
 clear t0 t1 t2 t3 t4 t5 t6 tl;
 obtain ⟨x0,x1,x2,xl⟩:=c3_of gq0
 clear gsz gq0 gB hk4 hb3 hownL hLI U2
 go_upto_region 8 with (first|(go_at_call 8;refine (HD.out _ _ _ HLI.out).mono ?_;rintro _ w5 ⟨a1',c1',a2',c2',rfl,hIA,hIB,hb5⟩)|fail)
 have ksz:((w5.alloc (.cells #[.int .i64 (n:Int),.int .i64 (n:Int),.slice a1' A.length c1'] 31)).alloc (.cells #[.int .i64 (n:Int),.int .i64 (n:Int),.slice a2' B.length c2'] 31)).heap.size=w5.heap.size+2:=by simp only[World.size_alloc] <;> omega
 have kB:Below w5.heap.size w5 ((w5.alloc (.cells #[.int .i64 (n:Int),.int .i64 (n:Int),.slice a1' A.length c1'] 31)).alloc (.cells #[.int .i64 (n:Int),.int .i64 (n:Int),.slice a2' B.length c2'] 31)):=((Below.refl _ _).alloc (Nat.le_refl _) _).alloc (by simp only[World.size_alloc];omega) _
 have kq0:((w5.alloc (.cells #[.int .i64 (n:Int),.int .i64 (n:Int),.slice a1' A.length c1'] 31)).alloc (.cells #[.int .i64 (n:Int),.int .i64 (n:Int),.slice a2' B.length c2'] 31)).heap[w5.heap.size]?=some (.cells #[.int .i64 (n:Int),.int .i64 (n:Int),.slice a1' A.length c1'] 31 (0,0)):=by have h:=World.alloc_heap_new w5 (.cells #[.int .i64 (n:Int),.int .i64 (n:Int),.slice a1' A.length c1'] 31);exact (Below.heap_alloc _ _ _ (by simp only[World.size_alloc];omega)).trans (h)
 have kq1:((w5.alloc (.cells #[.int .i64 (n:Int),.int .i64 (n:Int),.slice a1' A.length c1'] 31)).alloc (.cells #[.int .i64 (n:Int),.int .i64 (n:Int),.slice a2' B.length c2'] 31)).heap[w5.heap.size+1]?=some (.cells #[.int .i64 (n:Int),.int .i64 (n:Int),.slice a2' B.length c2'] 31 (0,0)):=by have h:=World.alloc_heap_new (w5.alloc (.cells #[.int .i64 (n:Int),.int .i64 (n:Int),.slice a1' A.length c1'] 31)) (.cells #[.int .i64 (n:Int),.int .i64 (n:Int),.slice a2' B.length c2'] 31);simp only[World.size_alloc] at h;exact h
 generalize ((w5.alloc (.cells #[.int .i64 (n:Int),.int .i64 (n:Int),.slice a1' A.length c1'] 31)).alloc (.cells #[.int .i64 (n:Int),.int .i64 (n:Int),.slice a2' B.length c2'] 31))=W6 at ksz kB kq0 kq1 ⊢
 have hk6:=keep_trans hb5 kB
 have U6:=Lib.hid (keep_trans U4.out hk6)
 replace QS:=Lib.hid (keepq hk6 QS.out)
 have IA:=Lib.hid (hIA.1.mono kB)
 have IB:=Lib.hid (hIB.1.mono kB)
 have CA:=Lib.hid hIA.2
 have CB:=Lib.hid hIB.2
 have QA:=Lib.hid kq0
 have QB:=Lib.hid kq1
 clear ksz kq0 kq1 kB hk6 hb5 hIA hIB U4 HLI x0 x1 x2 xl
 obtain ⟨⟨t0,t1,t2,t3,t4,t5,t6,tl⟩,_⟩:=c7_of QS.out
 go_upto_region 11 with (first|(go_at_call 9;(with_reducible refine (H1.out _).mono ?_);rintro _ w7 ⟨rfl,hb7⟩)|fail)
 replace QS:=Lib.hid (keepq hb7 QS.out)
 clear t0 t1 t2 t3 t4 t5 t6 tl;
 obtain ⟨⟨t0,t1,t2,t3,t4,t5,t6,tl⟩,_⟩:=c7_of QS.out
 go_upto_region 12 with (first|(go_at_call 9;(with_reducible refine (H2.out _).mono ?_);rintro _ w8 ⟨rfl,hb8⟩)|fail)
 have hk8:=keep_trans hb7 hb8
 have U8:=Lib.hid (keep_trans U6.out hk8)
 replace QA:=Lib.hid (keepq hk8 QA.out)
 replace QB:=Lib.hid (keepq hk8 QB.out)
 replace IA:=Lib.hid (IA.out.mono hk8)
 replace IB:=Lib.hid (IB.out.mono hk8)
 clear hb7 hb8 hk8 U6
 clear t0 t1 t2 t3 t4 t5 t6 tl;
 obtain ⟨x0,x1,x2,xl⟩:=c3_of QA.out
 obtain ⟨y0,y1,y2,yl⟩:=c3_of QB.out
 go_upto_region 17 with (first|(go_at_call 10;(with_reducible refine (HC.out _ _ _ B _ IBv hB).mono ?_);rintro _ v2 ⟨rfl,hv2⟩)|(go_at_call 10;(with_reducible refine (HC.out _ _ _ A _ IA.out hA).mono ?_);rintro _ v1 ⟨rfl,hv1⟩;clear x0 x1 x2 xl y0 y1 y2 yl;obtain ⟨y0,y1,y2,yl⟩:=c3_of (keepq hv1 QB.out);have IBv:=IB.out.mono hv1)|fail)
 have hk9:=keep_trans hv1 hv2
 have U9:=Lib.hid (keep_trans U8.out hk9)
 replace QA:=Lib.hid (keepq hk9 QA.out)
 replace QB:=Lib.hid (keepq hk9 QB.out)
 replace IA:=Lib.hid (IA.out.mono hk9)
 replace IB:=Lib.hid (IB.out.mono hk9)
 clear hv1 hv2 hk9 U8 y0 y1 y2 yl IBv
 obtain ⟨x0,x1,x2,xl⟩:=c3_of QA.out
 obtain ⟨y0,y1,y2,yl⟩:=c3_of QB.out
 go_upto_region 18 with (first|(go_at_call 11;refine (HO.out _ _ _ _ _ IA.out IB.out).mono ?_;rintro _ v3 ⟨rfl,hv3⟩)|fail)
 have U10:=Lib.hid (keep_trans U9.out hv3)
 replace QA:=Lib.hid (keepq hv3 QA.out)
 replace QB:=Lib.hid (keepq hv3 QB.out)
 replace IA:=Lib.hid (IA.out.mono hv3)
 replace IB:=Lib.hid (IB.out.mono hv3)
 clear hv3 U9 x0 x1 x2 xl y0 y1 y2 yl
 obtain ⟨x0,x1,x2,xl⟩:=c3_of QA.out
 go_upto_region 19 with (first|(go_at_call 12;refine (HKA.out _ _ _ IA.out CA.out).mono ?_;rintro _ v4 ⟨ak,ck,rfl,hsk,hv4⟩)|fail)
 have U11:=Lib.hid (keep_trans U10.out hv4)
 replace QB:=Lib.hid (keepq hv4 QB.out)
 replace IB:=Lib.hid (IB.out.mono hv4)
 have SA:=Lib.hid hsk
 clear hv4 U10 x0 x1 x2 xl hsk
 obtain ⟨y0,y1,y2,yl⟩:=c3_of QB.out
 go_upto_region 20 with (first|(go_at_call 12;refine (HKB.out _ _ _ IB.out CB.out).mono ?_;rintro _ v5 ⟨al,cl,rfl,hsl,hv5⟩)|fail)
 have U12:=Lib.hid (keep_trans U11.out hv5)
 replace SA:=Lib.hid (SA.out.mono hv5)
 have SB:=Lib.hid hsl
 clear hv5 U11 y0 y1 y2 yl hsl
 go_wp2_with (first|(go_at_call 13;(with_reducible refine (HIN.out _ _ KB _ (SB.out.mono hv6)).mono ?_);rintro _ v7 ⟨rfl,hv7⟩;rw[← HQB.out])|(go_at_call 13;(with_reducible refine (HIN.out _ _ KA _ SA.out).mono ?_);rintro _ v6 ⟨rfl,hv6⟩;rw[HPA.out])|(go_at_call 5;refine (HP.out _).mono ?_;rintro _ w9 ⟨rfl,hb9⟩)|fail)
 go_ret
 exact ⟨rfl,keep_trans (keep_trans (keep_trans U12.out hv6) hv7) hb9⟩
end
end Go.Proofs.Ytpkghjoippcjeaa
