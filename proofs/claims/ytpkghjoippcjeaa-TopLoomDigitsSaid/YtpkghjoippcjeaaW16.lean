/- Texts J194 to J188 of this proof, in one file. -/
import Derived.Test.YtpkghjoippcjeaaW02
import Derived.Test.YtpkghjoippcjeaaW14
import Derived.Test.YtpkghjoippcjeaaW15
namespace Go.Proofs.Ytpkghjoippcjeaa
set_option maxRecDepth 100000
set_option maxHeartbeats 16000000
section
open Go Go.RowKit
attribute [local go_sem] over_cell
attribute [local go_sem] Oper.semAt_some
def ruOf (n:Nat) (a0 a1 b0 b1 c0 c1:Int):Rul:={ n:=n,s0:=(a0 % (n:Int)).toNat,s1:=(a1 % (n:Int)).toNat,x0:=(b0 % (n:Int)).toNat,x1:=(b1 % (n:Int)).toNat,y0:=(c0 % (n:Int)).toNat,y1:=(c1 % (n:Int)).toNat }
theorem ru_rem {n:Nat} (h1:1≤n) (x:Int):(((x % (n:Int)).toNat:Nat):Int)=x % (n:Int):=Int.toNat_of_nonneg (Int.emod_nonneg x (by omega))
theorem ru_rlt {n:Nat} (h1:1≤n) (x:Int):(x % (n:Int)).toNat<n:=by
 have:=ru_rem h1 x
 have:=Int.emod_lt_of_pos x (show (0:Int)<(n:Int) by omega)
 omega
theorem ruOf_ok {n:Nat} (h1:1≤n) (h2:n≤16) (a0 a1 b0 b1 c0 c1:Int):(ruOf n a0 a1 b0 b1 c0 c1).ok :=
 ⟨h1,h2,ru_rlt h1 _,ru_rlt h1 _,ru_rlt h1 _,ru_rlt h1 _,ru_rlt h1 _,ru_rlt h1 _⟩
theorem ruOf_val {n:Nat} (h1:1≤n) (a0 a1 b0 b1 c0 c1:Int):(ruOf n a0 a1 b0 b1 c0 c1).val = .agg #[.int .i64 (n:Int),.int .i64 (a0 % (n:Int)),.int .i64 (a1 % (n:Int)),.int .i64 (b0 % (n:Int)),.int .i64 (b1 % (n:Int)),.int .i64 (c0 % (n:Int)),.int .i64 (c1 % (n:Int))]:=by
 unfold Rul.val ruOf
 dsimp only
 rw[ru_rem h1,ru_rem h1,ru_rem h1,ru_rem h1,ru_rem h1,ru_rem h1]
theorem uuni_c (n:Nat) (a0 a1 b0 b1 c0 c1:Int) (w:World) (h1:1≤n) (h2:n≤16) (hn:∀x,x∈[a0,a1,b0,b1,c0,c1]→NearI x) (hno:NoMeetR (ruOf n a0 a1 b0 b1 c0 c1)) :
  Calls Try.prog 7 #[.agg #[.int .i64 (n:Int),.int .i64 a0,.int .i64 a1,.int .i64 b0,.int .i64 b1,.int .i64 c0,.int .i64 c1]] w (GridE w (n:Int) (n:Int) (layTo (ruOf n a0 a1 b0 b1 c0 c1) (n*n)) 0):=by
 have HS:=Lib.hid (fun W=>ustep_c n a0 a1 b0 b1 c0 c1 W h1 h2 hn)
 have HR:=Lib.hid (fun W=>ureduced_c n a0 a1 b0 b1 c0 c1 W h1 h2)
 have HL:=Lib.hid (fun W=>lay_c (ruOf n a0 a1 b0 b1 c0 c1) W (ruOf_ok h1 h2 a0 a1 b0 b1 c0 c1) hno)
 have hv:=ruOf_val h1 a0 a1 b0 b1 c0 c1
 rw[hv] at HL
 have hrn:(ruOf n a0 a1 b0 b1 c0 c1).n=n:=rfl
 rw[hrn] at HL
 generalize layTo (ruOf n a0 a1 b0 b1 c0 c1) (n*n)=L at HL ⊢
 generalize a0 % (n:Int)=d0 at HR HL
 generalize a1 % (n:Int)=d1 at HR HL
 generalize b0 % (n:Int)=e0 at HR HL
 generalize b1 % (n:Int)=e1 at HR HL
 generalize c0 % (n:Int)=g0 at HR HL
 generalize c1 % (n:Int)=g1 at HR HL
 clear hn hno hv hrn
 go_enter Try.func7,Try.ntmps7
 go_upto_region 1 with fail
 have fsz:((w.alloc (.cells #[.int .i64 (n:Int),.int .i64 a0,.int .i64 a1,.int .i64 b0,.int .i64 b1,.int .i64 c0,.int .i64 c1] 24)).alloc (.cells #[.int .i64 0,.int .i64 0,.slice none 0 0] 31)).heap.size=w.heap.size+2:=by simp only[World.size_alloc] <;> omega
 have fB:Below w.heap.size w ((w.alloc (.cells #[.int .i64 (n:Int),.int .i64 a0,.int .i64 a1,.int .i64 b0,.int .i64 b1,.int .i64 c0,.int .i64 c1] 24)).alloc (.cells #[.int .i64 0,.int .i64 0,.slice none 0 0] 31)):=((Below.refl _ _).alloc (Nat.le_refl _) _).alloc (by simp only[World.size_alloc];omega) _
 have fq0:((w.alloc (.cells #[.int .i64 (n:Int),.int .i64 a0,.int .i64 a1,.int .i64 b0,.int .i64 b1,.int .i64 c0,.int .i64 c1] 24)).alloc (.cells #[.int .i64 0,.int .i64 0,.slice none 0 0] 31)).heap[w.heap.size]?=some (.cells #[.int .i64 (n:Int),.int .i64 a0,.int .i64 a1,.int .i64 b0,.int .i64 b1,.int .i64 c0,.int .i64 c1] 24 (0,0)):=by have h:=World.alloc_heap_new w (.cells #[.int .i64 (n:Int),.int .i64 a0,.int .i64 a1,.int .i64 b0,.int .i64 b1,.int .i64 c0,.int .i64 c1] 24);exact (Below.heap_alloc _ _ _ (by simp only[World.size_alloc];omega)).trans (h)
 have fq1:((w.alloc (.cells #[.int .i64 (n:Int),.int .i64 a0,.int .i64 a1,.int .i64 b0,.int .i64 b1,.int .i64 c0,.int .i64 c1] 24)).alloc (.cells #[.int .i64 0,.int .i64 0,.slice none 0 0] 31)).heap[w.heap.size+1]?=some (.cells #[.int .i64 0,.int .i64 0,.slice none 0 0] 31 (0,0)):=by have h:=World.alloc_heap_new (w.alloc (.cells #[.int .i64 (n:Int),.int .i64 a0,.int .i64 a1,.int .i64 b0,.int .i64 b1,.int .i64 c0,.int .i64 c1] 24)) (.cells #[.int .i64 0,.int .i64 0,.slice none 0 0] 31);simp only[World.size_alloc] at h;exact h
 generalize ((w.alloc (.cells #[.int .i64 (n:Int),.int .i64 a0,.int .i64 a1,.int .i64 b0,.int .i64 b1,.int .i64 c0,.int .i64 c1] 24)).alloc (.cells #[.int .i64 0,.int .i64 0,.slice none 0 0] 31))=W0 at fsz fB fq0 fq1 ⊢
 have Q0:=Lib.hid fq0
 have Q1:=Lib.hid fq1
 obtain ⟨⟨t0,t1,t2,t3,t4,t5,t6,tl⟩,_⟩:=c7_of fq0
 have hl2:=q_lt fq1
 clear fsz fq0 fq1
 go_upto_region 5 with (first|(go_at_call 18;refine (HS.out _).mono ?_;rintro _ w1 ⟨rfl,hb1⟩;clear t0 t1 t2 t3 t4 t5 t6 tl;obtain ⟨⟨t0,t1,t2,t3,t4,t5,t6,tl⟩,_⟩:=c7_of (keepq hb1 Q0.out))|(go_at_call 19;refine (HR.out _).mono ?_;rintro _ w2 ⟨rfl,hb2⟩)|(go_at_call 20;refine (HL.out _).mono ?_;rintro _ w3 ⟨a2,c2,rfl,hown2,hb3⟩)|fail)
 have gsz:((w3.alloc (.cells #[.int .i64 (n:Int),.int .i64 (n:Int),.slice a2 L.length c2] 31)).alloc (.cells #[.int .i64 0,.int .i64 0] 22)).heap.size=w3.heap.size+2:=by simp only[World.size_alloc] <;> omega
 have gB:Below w3.heap.size w3 ((w3.alloc (.cells #[.int .i64 (n:Int),.int .i64 (n:Int),.slice a2 L.length c2] 31)).alloc (.cells #[.int .i64 0,.int .i64 0] 22)):=((Below.refl _ _).alloc (Nat.le_refl _) _).alloc (by simp only[World.size_alloc];omega) _
 have gq0:((w3.alloc (.cells #[.int .i64 (n:Int),.int .i64 (n:Int),.slice a2 L.length c2] 31)).alloc (.cells #[.int .i64 0,.int .i64 0] 22)).heap[w3.heap.size]?=some (.cells #[.int .i64 (n:Int),.int .i64 (n:Int),.slice a2 L.length c2] 31 (0,0)):=by have h:=World.alloc_heap_new w3 (.cells #[.int .i64 (n:Int),.int .i64 (n:Int),.slice a2 L.length c2] 31);exact (Below.heap_alloc _ _ _ (by simp only[World.size_alloc];omega)).trans (h)
 have gq1:((w3.alloc (.cells #[.int .i64 (n:Int),.int .i64 (n:Int),.slice a2 L.length c2] 31)).alloc (.cells #[.int .i64 0,.int .i64 0] 22)).heap[w3.heap.size+1]?=some (.cells #[.int .i64 0,.int .i64 0] 22 (0,0)):=by have h:=World.alloc_heap_new (w3.alloc (.cells #[.int .i64 (n:Int),.int .i64 (n:Int),.slice a2 L.length c2] 31)) (.cells #[.int .i64 0,.int .i64 0] 22);simp only[World.size_alloc] at h;exact h
 generalize ((w3.alloc (.cells #[.int .i64 (n:Int),.int .i64 (n:Int),.slice a2 L.length c2] 31)).alloc (.cells #[.int .i64 0,.int .i64 0] 22))=W4 at gsz gB gq0 gq1 ⊢
 have hB4:=keep_trans (keep_trans (keep_trans hb1 hb2) hb3) gB
 have HB4:=Lib.hid (keep_trans fB hB4)
 have P1:=keepq hB4 Q1.out
 have hz1:=hb1.size
 have hz2:=hb2.size
 have hz0:=fB.size
 have HO4:=Lib.hid (owns_base (owns_keep hown2 (fun k _ hl=>gB.block k hl)) (show w.heap.size≤w2.heap.size by omega))
 have HNE:Hid ((Value.slice a2 L.length c2).ownBlock≠some (w.heap.size+1)):=fun e=>by have h1:=(hown2.lt _ e).1;omega
 obtain ⟨x0,x1,x2,xl⟩:=c3_of gq0
 obtain ⟨y0,y1,y2,yl⟩:=c3_of P1
 obtain ⟨yf0,yf1,yf2⟩:=f3_of P1
 have PR:=Lib.hid P1
 clear gsz gq0 gq1 t0 t1 t2 t3 t4 t5 t6 tl Q0 Q1 hb1 hb2 hb3 gB fB hB4 hown2 P1 hz1 hz2 hz0
 refine wp_region_S (fun w'=>∃u,w'=over (W4) u) [5,4] [(0,0),(0,1),(0,2),(1,3),(2,4),(2,5)] (by kernel_rfl) (by kernel_rfl) (by exact ⟨_,below_over (by repeat (first|assumption|exact Below.refl _ _|refine keep_drew ?_|refine keep_alloc ?_ _|refine keep_trans ?_ (by assumption)))⟩) ?_
 dsimp only[pickOps,nthOp]
 repeat (first|(refine wpS_skip rfl (fun K hK=>?_);go_big_quiet_op;refine hK _ ?_;clear hK K)|(refine wpS_quiet rfl rfl (fun K hK=>?_);go_big_quiet_op;refine hK _ ?_;clear hK K)|(refine wpS_loud ?_;go_wp2_with ((go_at_call 21;refine (uwhen_c _ _ _).mono ?_;rintro _ w5 ⟨rfl,rfl⟩));refine ⟨?_,?_⟩;focus (exact ⟨_,below_over (by repeat (first|assumption|exact Below.refl _ _|refine keep_drew ?_|refine keep_alloc ?_ _|refine keep_trans ?_ (by assumption)))⟩)))
 refine wpS_late _ _ _ rfl ?_
 dsimp only[List.map]
 go_wp2_with ((go_at_call 21;refine (uwhen_c _ _ _).mono ?_;rintro _ w5 ⟨rfl,rfl⟩))
 refine NoPanic.normal ?_
 have g3:=st3_q (x0 := .int .i64 (n:Int)) (x1 := .int .i64 (n:Int)) (x2 := .slice a2 L.length c2) PR.out
 have g4:=keepq (keep_drew (Below.refl _ _)) g3
 have hown3:=st3_own (x0 := .int .i64 (n:Int)) (x1 := .int .i64 (n:Int)) (x2 := .slice a2 L.length c2) HO4.out HNE.out
 have hown4:=owns_keep hown3 (w':=World.drew _) (fun k _ hl=>(keep_drew (Below.refl _ _)).block k hl)
 have hb3:=(st3_below (x0 := .int .i64 (n:Int)) (x1 := .int .i64 (n:Int)) (x2 := .slice a2 L.length c2) (b:=w.heap.size+1) HB4.out (by omega)).drew
 obtain ⟨z0,z1,z2,zl⟩:=c3_of g4
 clear x0 x1 x2 xl y0 y1 y2 yl yf0 yf1 yf2 g3 g4 hown3
 go_wp2_with fail
 refine bodyPost_ret (v := .tuple #[.agg #[.int .i64 (n:Int),.int .i64 (n:Int),.slice a2 L.length c2],.int .i64 0]) ?_ rfl ⟨_,_,rfl,hown4,hb3⟩
 simp[results,Try.f7,go_sem,z0,z1,z2,whenV]
end
section
open Go Go.RowKit
attribute [local go_sem] over_cell
attribute [local go_sem] Oper.semAt_some
def nearB (x:Int):Bool:=!(decide (x < -999999999)||decide (999999999<x))
theorem near_of {x:Int} (h:nearB x=true):NearI x:=by
 unfold nearB at h
 rw[Bool.not_eq_true',Bool.or_eq_false_iff,decide_eq_false_iff_not,decide_eq_false_iff_not] at h
 exact ⟨by omega,by omega⟩
def stepB (n:Int) (l:List Int):Bool:=decide (1≤n)&&(decide (n≤16)&&l.all nearB)
def stepE (n:Int) (l:List Int):Int:=if stepB n l=true then 0 else 3
theorem stepE_of {n:Int} {l:List Int} (h:stepE n l=0):(1≤n∧n≤16)∧∀x,x∈l→NearI x:=by
 unfold stepE at h
 by_cases e:stepB n l=true
 ·unfold stepB at e
  rw[Bool.and_eq_true,Bool.and_eq_true,decide_eq_true_eq,decide_eq_true_eq,List.all_eq_true] at e
  exact ⟨⟨e.1,e.2.1⟩,fun x hx=>near_of (e.2.2 x hx)⟩
 ·rw[if_neg e] at h;exact absurd h (by decide)
theorem rstep3_c (n a0 a1 b0 b1 c0 c1:Int) (w:World) :
  Calls Try.prog 4 #[.agg #[.int .i64 n,.int .i64 a0,.int .i64 a1,.int .i64 b0,.int .i64 b1,.int .i64 c0,.int .i64 c1]] w fun e w'=>e = .returned (.int .i64 (stepE n [a0,a1,b0,b1,c0,c1]))∧Below w.heap.size w w':=by
 by_cases h1:n<1
 ·have hd1:decide (n<1)=true:=decide_eq_true h1
  have HE:Hid (stepE n [a0,a1,b0,b1,c0,c1]=3):=by unfold Hid stepE stepB;rw[decide_eq_false (show ¬1≤n by omega)];rfl
  go_enter Try.func4,Try.ntmps4
  go_upto_region 1 with fail
  have fsz:(w.alloc (.cells #[.int .i64 n,.int .i64 a0,.int .i64 a1,.int .i64 b0,.int .i64 b1,.int .i64 c0,.int .i64 c1] 24)).heap.size=w.heap.size+1:=by simp only[World.size_alloc]
  have fB:Below w.heap.size w (w.alloc (.cells #[.int .i64 n,.int .i64 a0,.int .i64 a1,.int .i64 b0,.int .i64 b1,.int .i64 c0,.int .i64 c1] 24)):=(Below.refl _ _).alloc (Nat.le_refl _) _
  have fq0:(w.alloc (.cells #[.int .i64 n,.int .i64 a0,.int .i64 a1,.int .i64 b0,.int .i64 b1,.int .i64 c0,.int .i64 c1] 24)).heap[w.heap.size]?=some (.cells #[.int .i64 n,.int .i64 a0,.int .i64 a1,.int .i64 b0,.int .i64 b1,.int .i64 c0,.int .i64 c1] 24 (0,0)):=by have h:=World.alloc_heap_new w (.cells #[.int .i64 n,.int .i64 a0,.int .i64 a1,.int .i64 b0,.int .i64 b1,.int .i64 c0,.int .i64 c1] 24);exact h
  generalize (w.alloc (.cells #[.int .i64 n,.int .i64 a0,.int .i64 a1,.int .i64 b0,.int .i64 b1,.int .i64 c0,.int .i64 c1] 24))=W0 at fsz fB fq0 ⊢
  obtain ⟨⟨t0,t1,t2,t3,t4,t5,t6,tl⟩,_⟩:=c7_of fq0
  clear fsz fq0
  go_wp2_with fail
  refine bodyPost_ret (v := .int .i64 3) ?_ rfl ⟨by rw[HE.out],fB⟩
  simp[results,Try.f4,go_sem]
 have hd1:decide (n<1)=false:=decide_eq_false h1
 by_cases h2:16<n
 ·have hd2:decide (16<n)=true:=decide_eq_true h2
  have HE:Hid (stepE n [a0,a1,b0,b1,c0,c1]=3):=by unfold Hid stepE stepB;rw[decide_eq_false (show ¬n≤16 by omega),decide_eq_true (show 1≤n by omega)];rfl
  go_enter Try.func4,Try.ntmps4
  go_upto_region 1 with fail
  have fsz:(w.alloc (.cells #[.int .i64 n,.int .i64 a0,.int .i64 a1,.int .i64 b0,.int .i64 b1,.int .i64 c0,.int .i64 c1] 24)).heap.size=w.heap.size+1:=by simp only[World.size_alloc]
  have fB:Below w.heap.size w (w.alloc (.cells #[.int .i64 n,.int .i64 a0,.int .i64 a1,.int .i64 b0,.int .i64 b1,.int .i64 c0,.int .i64 c1] 24)):=(Below.refl _ _).alloc (Nat.le_refl _) _
  have fq0:(w.alloc (.cells #[.int .i64 n,.int .i64 a0,.int .i64 a1,.int .i64 b0,.int .i64 b1,.int .i64 c0,.int .i64 c1] 24)).heap[w.heap.size]?=some (.cells #[.int .i64 n,.int .i64 a0,.int .i64 a1,.int .i64 b0,.int .i64 b1,.int .i64 c0,.int .i64 c1] 24 (0,0)):=by have h:=World.alloc_heap_new w (.cells #[.int .i64 n,.int .i64 a0,.int .i64 a1,.int .i64 b0,.int .i64 b1,.int .i64 c0,.int .i64 c1] 24);exact h
  generalize (w.alloc (.cells #[.int .i64 n,.int .i64 a0,.int .i64 a1,.int .i64 b0,.int .i64 b1,.int .i64 c0,.int .i64 c1] 24))=W0 at fsz fB fq0 ⊢
  obtain ⟨⟨t0,t1,t2,t3,t4,t5,t6,tl⟩,_⟩:=c7_of fq0
  clear fsz fq0
  go_wp2_with fail
  refine bodyPost_ret (v := .int .i64 3) ?_ rfl ⟨by rw[HE.out],fB⟩
  simp[results,Try.f4,go_sem]
 have hd2:decide (16<n)=false:=decide_eq_false h2
 obtain ⟨l,hl⟩:∃l,l=[a0,a1,b0,b1,c0,c1]:=⟨_,rfl⟩
 have hll:Hid (l.length=6):=by unfold Hid;rw[hl];rfl
 have HE:Hid (stepE n l=if l.all nearB=true then 0 else 3):=by unfold Hid stepE stepB;rw[decide_eq_true (show n≤16 by omega),decide_eq_true (show 1≤n by omega)];rfl
 have HN:=Lib.hid (fun W=>IC.new6 W a0 a1 b0 b1 c0 c1 3)
 rw[← hl] at HN ⊢
 clear hl
 go_enter Try.func4,Try.ntmps4
 go_upto_region 1 with fail
 have fsz:(w.alloc (.cells #[.int .i64 n,.int .i64 a0,.int .i64 a1,.int .i64 b0,.int .i64 b1,.int .i64 c0,.int .i64 c1] 24)).heap.size=w.heap.size+1:=by simp only[World.size_alloc]
 have fB:Below w.heap.size w (w.alloc (.cells #[.int .i64 n,.int .i64 a0,.int .i64 a1,.int .i64 b0,.int .i64 b1,.int .i64 c0,.int .i64 c1] 24)):=(Below.refl _ _).alloc (Nat.le_refl _) _
 have fq0:(w.alloc (.cells #[.int .i64 n,.int .i64 a0,.int .i64 a1,.int .i64 b0,.int .i64 b1,.int .i64 c0,.int .i64 c1] 24)).heap[w.heap.size]?=some (.cells #[.int .i64 n,.int .i64 a0,.int .i64 a1,.int .i64 b0,.int .i64 b1,.int .i64 c0,.int .i64 c1] 24 (0,0)):=by have h:=World.alloc_heap_new w (.cells #[.int .i64 n,.int .i64 a0,.int .i64 a1,.int .i64 b0,.int .i64 b1,.int .i64 c0,.int .i64 c1] 24);exact h
 generalize (w.alloc (.cells #[.int .i64 n,.int .i64 a0,.int .i64 a1,.int .i64 b0,.int .i64 b1,.int .i64 c0,.int .i64 c1] 24))=W0 at fsz fB fq0 ⊢
 obtain ⟨⟨t0,t1,t2,t3,t4,t5,t6,tl⟩,_⟩:=c7_of fq0
 clear fsz fq0
 go_upto_region 4 with fail
 have HI:=Lib.hid (HN.out W0)
 have HB:=Lib.hid (keep_alloc fB (.cells #[.int .i64 a0,.int .i64 a1,.int .i64 b0,.int .i64 b1,.int .i64 c0,.int .i64 c1] 3))
 generalize (W0.alloc (.cells #[.int .i64 a0,.int .i64 a1,.int .i64 b0,.int .i64 b1,.int .i64 c0,.int .i64 c1] 3))=W1 at HI HB ⊢
 generalize (some (⟨W0.heap.size,0,none⟩:Addr))=A at HI ⊢
 clear t0 t1 t2 t3 t4 t5 t6 tl HN fB
 go_wp2_with fail
 go_loopw [4] (fun s4 wr=>∃k:Nat,k≤6∧s4 = .int .i64 (k:Int)∧Hid (∀j,j<k→nearB (l[j]?.getD 0)=true)∧wr=W1) (fun s4 _=>6 - (intOf s4).toNat)
 case atStart=>exact ⟨0,by omega,rfl,fun j hj=>absurd hj (by omega),rfl⟩
 case round =>
  obtain ⟨k,hk,rfl,hp,hwr⟩:=hrel
  replace hwr:=hwr.symm
  subst hwr
  by_cases hlt:k<6
  ·have hki:(k:Int)<6:=by omega
   obtain ⟨b,off,rfl,hb,hc⟩:=HI.out.2 k hlt
   have HM:Hid (l[k]?.getD 0∈l):=by unfold Hid;rw[List.getElem?_eq_getElem (by rw[hll.out];exact hlt)];exact List.getElem_mem _
   obtain ⟨x,hx⟩:∃x,x=l[k]?.getD 0:=⟨_,rfl⟩
   rw[← hx] at hc HM
   have HX:=Lib.hid hx
   clear hx
   by_cases g1:x < -999999999
   ·have hg1:decide (x < -999999999)=true:=decide_eq_true g1
    have HY:Hid (stepE n l=3):=by
     unfold Hid;rw[HE.out,if_neg]
     intro e
     have:=(List.all_eq_true.1 e) x HM.out
     unfold nearB at this
     rw[hg1] at this;cases this
    go_wp2_with fail
    refine bodyPost_ret (v := .int .i64 3) ?_ rfl ⟨by rw[HY.out],HB.out⟩
    simp[results,Try.f4,go_sem]
   ·have hg1:decide (x < -999999999)=false:=decide_eq_false g1
    by_cases g2:999999999<x
    ·have hg2:decide (999999999<x)=true:=decide_eq_true g2
     have HY:Hid (stepE n l=3):=by
      unfold Hid;rw[HE.out,if_neg]
      intro e
      have:=(List.all_eq_true.1 e) x HM.out
      unfold nearB at this
      rw[hg1,hg2] at this;cases this
     go_wp2_with fail
     refine bodyPost_ret (v := .int .i64 3) ?_ rfl ⟨by rw[HY.out],HB.out⟩
     simp[results,Try.f4,go_sem]
    ·have hg2:decide (999999999<x)=false:=decide_eq_false g2
     have HZ:Hid (nearB x=true):=by unfold Hid nearB;rw[hg1,hg2];rfl
     go_wp2_with fail
     go_roundw
     case rel=>exact ⟨k+1,by omega,by go_num,fun j hj=>by
      rcases Nat.lt_or_ge j k with e|e
      ·exact hp.out j e
      ·rw[show j=k by omega,← HX.out];exact HZ.out,trivial⟩
     case measure=>simp[intOf];omega
  ·have hki:¬(k:Int)<6:=by omega
   have HY:Hid (stepE n l=0):=by
    unfold Hid;rw[HE.out,if_pos]
    rw[List.all_eq_true]
    intro x hx
    obtain ⟨j,hj,rfl⟩:=List.getElem_of_mem hx
    have:=hp.out j (by rw[hll.out] at hj;omega)
    rw[List.getElem?_eq_getElem hj,Option.getD_some] at this
    exact this
   go_wp2_with fail
   refine bodyPost_ret (v := .int .i64 0) ?_ rfl ⟨by rw[HY.out],HB.out⟩
   simp[results,Try.f4,go_sem]
end
section
open Go Go.RowKit
attribute [local go_sem] over_cell
attribute [local go_sem] Oper.semAt_some
theorem rplace_c (n:Nat) (a0 a1 b0 b1 c0 c1:Int) (k:Nat) (w:World) (h1:1≤n) (h2:n≤16) (hk:k<n*n) :
  Calls Try.prog 17 #[.agg #[.int .i64 (n:Int),.int .i64 a0,.int .i64 a1,.int .i64 b0,.int .i64 b1,.int .i64 c0,.int .i64 c1],.int .i64 ((k+1:Nat):Int)] w fun e w' =>
   e = .returned (.tuple #[.int .i64 ((atN n (a0 % (n:Int)).toNat (b0 % (n:Int)).toNat (c0 % (n:Int)).toNat k:Nat):Int),.int .i64 ((atN n (a1 % (n:Int)).toNat (b1 % (n:Int)).toNat (c1 % (n:Int)).toNat k:Nat):Int)])∧Below w.heap.size w w':=by
 obtain ⟨p0,q0,e1,e2,hp0,hq0,e3⟩:=at_parts (s:=(a0 % (n:Int)).toNat) h2 h1 hk (ru_rlt h1 b0) (ru_rlt h1 c0)
 obtain ⟨p1,q1,f1,f2,hp1,hq1,f3⟩:=at_parts (s:=(a1 % (n:Int)).toNat) h2 h1 hk (ru_rlt h1 b1) (ru_rlt h1 c1)
 have hnn:n*n≤256:=Nat.mul_le_mul h2 h2
 have HM:∀(x:Int) W,Calls Try.prog 37 #[.int .i64 x,.int .i64 (n:Int)] W fun e w'=>e = .returned (.int .i64 (((x % (n:Int)).toNat:Nat):Int))∧W=w':=fun x W=>by
  rw[ru_rem h1];exact mod_c x (n:Int) W (by omega) (by omega)
 have M0:=Lib.hid (fun W=>HM a0 W)
 have M1:=Lib.hid (fun W=>HM a1 W)
 have M2:=Lib.hid (fun W=>HM b0 W)
 have M3:=Lib.hid (fun W=>HM b1 W)
 have M4:=Lib.hid (fun W=>HM c0 W)
 have M5:=Lib.hid (fun W=>HM c1 W)
 have l0:=ru_rlt h1 a0
 have l1:=ru_rlt h1 a1
 generalize atN n (a0 % (n:Int)).toNat (b0 % (n:Int)).toNat (c0 % (n:Int)).toNat k=u0 at e3 ⊢
 generalize atN n (a1 % (n:Int)).toNat (b1 % (n:Int)).toNat (c1 % (n:Int)).toNat k=u1 at f3 ⊢
 generalize (a0 % (n:Int)).toNat=s0 at M0 e3 l0
 generalize (a1 % (n:Int)).toNat=s1 at M1 f3 l1
 generalize (b0 % (n:Int)).toNat=x0 at M2 e1
 generalize (b1 % (n:Int)).toNat=x1 at M3 f1
 generalize (c0 % (n:Int)).toNat=y0 at M4 e2
 generalize (c1 % (n:Int)).toNat=y1 at M5 f2
 have HDV:Hid (wrap64 ((k:Int) / (n:Int))=((k / n:Nat):Int)):=divw (by omega)
 have HMV:Hid ((k:Int) % (n:Int)=((k % n:Nat):Int)):=modw
 have hkb:k≤256:=by omega
 obtain ⟨x,hx⟩:∃x,x=k+1:=⟨_,rfl⟩
 rw[← hx]
 have hxk:(x:Int) - 1=(k:Int):=by omega
 have hx1:1≤x∧x≤257:=by omega
 have hnI:(n:Int)≠0:=by omega
 generalize k % n=A at e1 f1 HMV
 generalize k / n=B at e2 f2 HDV
 have HE1:=Lib.hid e1
 have HE2:=Lib.hid e2
 have HF1:=Lib.hid f1
 have HF2:=Lib.hid f2
 have HE3:=Lib.hid e3
 have HF3:=Lib.hid f3
 clear hx hk hnn HM e1 e2 f1 f2 e3 f3
 go_enter Try.func17,Try.ntmps17
 go_upto_region 1 with fail
 have fsz:(w.alloc (.cells #[.int .i64 (n:Int),.int .i64 a0,.int .i64 a1,.int .i64 b0,.int .i64 b1,.int .i64 c0,.int .i64 c1] 24)).heap.size=w.heap.size+1:=by simp only[World.size_alloc]
 have fB:Below w.heap.size w (w.alloc (.cells #[.int .i64 (n:Int),.int .i64 a0,.int .i64 a1,.int .i64 b0,.int .i64 b1,.int .i64 c0,.int .i64 c1] 24)):=(Below.refl _ _).alloc (Nat.le_refl _) _
 have fq0:(w.alloc (.cells #[.int .i64 (n:Int),.int .i64 a0,.int .i64 a1,.int .i64 b0,.int .i64 b1,.int .i64 c0,.int .i64 c1] 24)).heap[w.heap.size]?=some (.cells #[.int .i64 (n:Int),.int .i64 a0,.int .i64 a1,.int .i64 b0,.int .i64 b1,.int .i64 c0,.int .i64 c1] 24 (0,0)):=by have h:=World.alloc_heap_new w (.cells #[.int .i64 (n:Int),.int .i64 a0,.int .i64 a1,.int .i64 b0,.int .i64 b1,.int .i64 c0,.int .i64 c1] 24);exact h
 generalize (w.alloc (.cells #[.int .i64 (n:Int),.int .i64 a0,.int .i64 a1,.int .i64 b0,.int .i64 b1,.int .i64 c0,.int .i64 c1] 24))=W0 at fsz fB fq0 ⊢
 have Q0:=Lib.hid fq0
 obtain ⟨⟨t0,t1,t2,t3,t4,t5,t6,tl⟩,_⟩:=c7_of fq0
 clear fsz fq0
 refine wp_region_S (fun w'=>∃u,w'=over (W0) u) [11] [(0,0),(0,1),(0,2),(0,3),(0,4),(0,5),(0,6),(0,7),(0,8),(0,9),(1,10),(2,11)] (by kernel_rfl) (by kernel_rfl) (by exact ⟨_,below_over (by repeat (first|assumption|exact Below.refl _ _|refine keep_drew ?_|refine keep_alloc ?_ _|refine keep_trans ?_ (by assumption)))⟩) ?_
 dsimp only[pickOps,nthOp]
 repeat (first|(refine wpS_skip rfl (fun K hK=>?_);go_big_quiet_op;refine hK _ ?_;clear hK K)|(refine wpS_quiet rfl rfl (fun K hK=>?_);go_big_quiet_op;refine hK _ ?_;clear hK K)|(refine wpS_loud ?_;go_wp2_with (fail);refine ⟨?_,?_⟩;focus (exact ⟨_,below_over (by repeat (first|assumption|exact Below.refl _ _|refine keep_drew ?_|refine keep_alloc ?_ _|refine keep_trans ?_ (by assumption)))⟩)))
 refine wpS_late _ _ _ rfl ?_
 dsimp only[List.map]
 go_wp2_with (fail)
 refine NoPanic.normal ?_
 rw[HMV.out,HDV.out]
 go_upto_region 2 with fail
 clear t0 t1 t2 t3 t4 t5 t6 tl
 have hk1:Below W0.heap.size W0 W0.drew:=keep_drew (Below.refl _ _)
 have P0:=Lib.hid (keepq hk1 Q0.out)
 have HB1:=Lib.hid (keep_trans fB hk1)
 generalize W0.drew=W1 at P0 HB1 ⊢
 obtain ⟨⟨t0,t1,t2,t3,t4,t5,t6,tl⟩,_⟩:=c7_of P0.out
 have e1:=HE1.out
 have e2:=HE2.out
 refine wp_region_S (fun w'=>∃u,w'=over (W1) u) [24] [(0,0),(0,1),(0,2),(0,3),(0,4),(0,6),(0,7),(0,8),(0,9),(0,10),(0,11),(0,15),(0,16),(0,17),(0,18),(0,19),(0,20),(1,5),(1,12),(0,13),(0,14),(1,21),(0,22),(0,23),(2,24)] (by kernel_rfl) (by kernel_rfl) (by exact ⟨_,below_over (by repeat (first|assumption|exact Below.refl _ _|refine keep_drew ?_|refine keep_alloc ?_ _|refine keep_trans ?_ (by assumption)))⟩) ?_
 dsimp only[pickOps,nthOp]
 repeat (first|(refine wpS_skip rfl (fun K hK=>?_);go_big_quiet_op;refine hK _ ?_;clear hK K)|(refine wpS_quiet rfl rfl (fun K hK=>?_);go_big_quiet_op;refine hK _ ?_;clear hK K)|(refine wpS_loud ?_;go_wp2_with ((go_at_call 37;(first|(with_reducible refine (M0.out _).mono ?_)|(with_reducible refine (M2.out _).mono ?_)|(with_reducible refine (M4.out _).mono ?_));rintro _ w3 ⟨rfl,rfl⟩));refine ⟨?_,?_⟩;focus (exact ⟨_,below_over (by repeat (first|assumption|exact Below.refl _ _|refine keep_drew ?_|refine keep_alloc ?_ _|refine keep_trans ?_ (by assumption)))⟩)))
 refine wpS_late _ _ _ rfl ?_
 dsimp only[List.map]
 go_wp2_with ((go_at_call 37;(first|(with_reducible refine (M0.out _).mono ?_)|(with_reducible refine (M2.out _).mono ?_)|(with_reducible refine (M4.out _).mono ?_));rintro _ w3 ⟨rfl,rfl⟩))
 refine NoPanic.normal ?_
 go_upto_region 3 with fail
 clear t0 t1 t2 t3 t4 t5 t6 tl e1 e2
 have hk2:Below W1.heap.size W1 W1.drew:=keep_drew (Below.refl _ _)
 have P1:=Lib.hid (keepq hk2 P0.out)
 have HB2:=Lib.hid (keep_trans HB1.out hk2)
 clear P0 HB1 fB hk1 hk2
 generalize W1.drew=W2 at P1 HB2 ⊢
 obtain ⟨⟨t0,t1,t2,t3,t4,t5,t6,tl⟩,_⟩:=c7_of P1.out
 have f1:=HF1.out
 have f2:=HF2.out
 refine wp_region_S (fun w'=>∃u,w'=over (W2) u) [24] [(0,0),(0,1),(0,2),(0,3),(0,4),(0,6),(0,7),(0,8),(0,9),(0,10),(0,11),(0,15),(0,16),(0,17),(0,18),(0,19),(0,20),(1,5),(1,12),(0,13),(0,14),(1,21),(0,22),(0,23),(2,24)] (by kernel_rfl) (by kernel_rfl) (by exact ⟨_,below_over (by repeat (first|assumption|exact Below.refl _ _|refine keep_drew ?_|refine keep_alloc ?_ _|refine keep_trans ?_ (by assumption)))⟩) ?_
 dsimp only[pickOps,nthOp]
 repeat (first|(refine wpS_skip rfl (fun K hK=>?_);go_big_quiet_op;refine hK _ ?_;clear hK K)|(refine wpS_quiet rfl rfl (fun K hK=>?_);go_big_quiet_op;refine hK _ ?_;clear hK K)|(refine wpS_loud ?_;go_wp2_with ((go_at_call 37;(first|(with_reducible refine (M1.out _).mono ?_)|(with_reducible refine (M3.out _).mono ?_)|(with_reducible refine (M5.out _).mono ?_));rintro _ w3 ⟨rfl,rfl⟩));refine ⟨?_,?_⟩;focus (exact ⟨_,below_over (by repeat (first|assumption|exact Below.refl _ _|refine keep_drew ?_|refine keep_alloc ?_ _|refine keep_trans ?_ (by assumption)))⟩)))
 refine wpS_late _ _ _ rfl ?_
 dsimp only[List.map]
 go_wp2_with ((go_at_call 37;(first|(with_reducible refine (M1.out _).mono ?_)|(with_reducible refine (M3.out _).mono ?_)|(with_reducible refine (M5.out _).mono ?_));rintro _ w3 ⟨rfl,rfl⟩))
 refine NoPanic.normal ?_
 go_upto_region 4 with fail
 clear t0 t1 t2 t3 t4 t5 t6 tl f1 f2
 have hk2:Below W2.heap.size W2 W2.drew:=keep_drew (Below.refl _ _)
 have P3:=Lib.hid (keepq hk2 P1.out)
 have HB3:=Lib.hid (keep_trans HB2.out hk2)
 clear P1 HB2 hk2
 generalize W2.drew=W3 at P3 HB3 ⊢
 obtain ⟨⟨t0,t1,t2,t3,t4,t5,t6,tl⟩,_⟩:=c7_of P3.out
 refine wp_region_S (fun w'=>∃u,w'=over (W3) u) [9] [(0,0),(0,1),(0,2),(0,3),(0,4),(0,5),(0,6),(0,7),(1,8),(2,9)] (by kernel_rfl) (by kernel_rfl) (by exact ⟨_,below_over (by repeat (first|assumption|exact Below.refl _ _|refine keep_drew ?_|refine keep_alloc ?_ _|refine keep_trans ?_ (by assumption)))⟩) ?_
 dsimp only[pickOps,nthOp]
 repeat (first|(refine wpS_skip rfl (fun K hK=>?_);go_big_quiet_op;refine hK _ ?_;clear hK K)|(refine wpS_quiet rfl rfl (fun K hK=>?_);go_big_quiet_op;refine hK _ ?_;clear hK K)|(refine wpS_loud ?_;go_wp2_with (fail);refine ⟨?_,?_⟩;focus (exact ⟨_,below_over (by repeat (first|assumption|exact Below.refl _ _|refine keep_drew ?_|refine keep_alloc ?_ _|refine keep_trans ?_ (by assumption)))⟩)))
 refine wpS_late _ _ _ rfl ?_
 dsimp only[List.map]
 go_wp2_with (fail)
 refine NoPanic.normal ?_
 rw[HE3.out,HF3.out]
 go_wp2_with fail
 refine bodyPost_ret (v := .tuple #[.int .i64 (u0:Int),.int .i64 (u1:Int)]) ?_ rfl ⟨rfl,HB3.out.drew⟩
 simp[results,Try.f17,go_sem]
end
section
open Go Go.RowKit
attribute [local go_sem] over_cell
attribute [local go_sem] Oper.semAt_some
def NoM (m:Nat) (c:Nat→Nat):Prop:=∀k,k<m→(layC m c k)[c k]?.getD 0=0
def MeetO (w:World) (m:Nat) (c:Nat→Nat) (e:Ending) (w':World):Prop :=
 (∃p q:Int,e = .returned (.tuple #[.int .i64 p,.int .i64 q])∧((NoM m c∧q=0)∨(¬NoM m c∧0<q)))∧Below w.heap.size w w'
theorem layC_sign {m:Nat} {c:Nat→Nat} {p:Nat} (hp:p<m) (k:Nat):(layC m c k)[p]?.getD 0=0∨0<(layC m c k)[p]?.getD 0:=by
 by_cases h:∃i,i<k∧c i=p
 ·obtain ⟨i,hi,e⟩:=h
  exact .inr (layC_pos hp k i hi e)
 ·exact .inl (layC_zero hp k (fun i hi e=>h ⟨i,hi,e⟩))
structure MeI (w:World) (n:Nat) (a0 a1 b0 b1 c0 c1:Int) (g m:Nat) (xs:List Int) (W:World):Prop where
 q:W.heap[w.heap.size]?=some (.cells #[.int .i64 (n:Int),.int .i64 a0,.int .i64 a1,.int .i64 b0,.int .i64 b1,.int .i64 c0,.int .i64 c1] 24 (0,0))
 own:W.ownsRow (w.heap.size+1) 3 1 (.slice (some ⟨g,0,none⟩) m m) m (xs.map (Value.int .i64))
 below:Below w.heap.size w W
 lt:w.heap.size<g
section
variable {w:World} {n:Nat} {a0 a1 b0 b1 c0 c1:Int} {g m:Nat} {xs:List Int} {W:World}
theorem MeI.keep (h:MeI w n a0 a1 b0 b1 c0 c1 g m xs W) {W':World} (hb:Below W.heap.size W W'):MeI w n a0 a1 b0 b1 c0 c1 g m xs W' :=
 ⟨keepq hb h.q,owns_keep h.own (fun k _ hl=>hb.block k hl),keep_trans h.below hb,h.lt⟩
theorem MeI.set (h:MeI w n a0 a1 b0 b1 c0 c1 g m xs W) (i:Nat) (x:Int):MeI w n a0 a1 b0 b1 c0 c1 g m (xs.set i x) (W.setCell ⟨g,i,none⟩ (.int .i64 x)) :=
 ⟨q_other h.q (by have:=h.lt;omega) _,by rw[List.map_set];exact owns_set h.own i _,h.below.setCell (p:=⟨g,i,none⟩) (by have:=h.lt;show w.heap.size≤g;omega) _,h.lt⟩
theorem MeI.cell (h:MeI w n a0 a1 b0 b1 c0 c1 g m xs W) {i:Nat} (hi:i<m):W.cell? ⟨g,i,none⟩=some (.int .i64 (xs[i]?.getD 0))∧W.frozen? ⟨g,i,none⟩=false∧g<W.heap.size:=by
 obtain ⟨g2,cap,x,hv,hx,hc,hf,hl,_⟩:=owns_free h.own i hi
 simp only[Value.slice.injEq,Option.some.injEq,Addr.mk.injEq,and_true,true_and] at hv
 obtain ⟨rfl,_⟩:=hv
 rw[List.getElem?_map] at hx
 cases hxs:xs[i]? with
 | none=>rw[hxs] at hx;cases hx
 | some y=>rw[hxs] at hx;cases hx;exact ⟨hc,hf,hl⟩
end
theorem rmeet3_c (n:Nat) (a0 a1 b0 b1 c0 c1:Int) (w:World) (h1:1≤n) (h2:n≤16) :
  Calls Try.prog 6 #[.agg #[.int .i64 (n:Int),.int .i64 a0,.int .i64 a1,.int .i64 b0,.int .i64 b1,.int .i64 c0,.int .i64 c1]] w (MeetO w (n*n) (ruOf n a0 a1 b0 b1 c0 c1).cell):=by
 obtain ⟨i0,hi,hz0,hz1,hz2⟩:=info_parts infoInt
 obtain ⟨m,hm⟩:∃m,m=n*n:=⟨_,rfl⟩
 have hmb:m≤256:=by rw[hm];exact Nat.mul_le_mul h2 h2
 have HMU:Hid (wrap64 ((n:Int)*(n:Int))=(m:Int)):=wrapmul hm (by omega)
 have HMM:Hid ((n:Int)*(n:Int)=(m:Int)):=by unfold Hid;rw[hm,Int.natCast_mul]
 obtain ⟨C,hC⟩:∃C,C=(ruOf n a0 a1 b0 b1 c0 c1).cell:=⟨_,rfl⟩
 have HP:Hid (∀k,k<m→∃u0 u1 v:Nat,u0<n∧u1<n∧(u0:Int)*(n:Int)=(v:Int)∧v≤256∧C k=v+u1∧C k<m∧∀W,Calls Try.prog 17 #[.agg #[.int .i64 (n:Int),.int .i64 a0,.int .i64 a1,.int .i64 b0,.int .i64 b1,.int .i64 c0,.int .i64 c1],.int .i64 ((k+1:Nat):Int)] W fun e w' =>
   e = .returned (.tuple #[.int .i64 (u0:Int),.int .i64 (u1:Int)])∧Below W.heap.size W w'):=by
  intro k hk
  rw[hm] at hk
  have l0:=atN_lt (n:=n) (s:=(a0 % (n:Int)).toNat) (x:=(b0 % (n:Int)).toNat) (y:=(c0 % (n:Int)).toNat) (k:=k) h1
  have l1:=atN_lt (n:=n) (s:=(a1 % (n:Int)).toNat) (x:=(b1 % (n:Int)).toNat) (y:=(c1 % (n:Int)).toNat) (k:=k) h1
  refine ⟨_,_,atN n (a0 % (n:Int)).toNat (b0 % (n:Int)).toNat (c0 % (n:Int)).toNat k*n,l0,l1,by rw[Int.natCast_mul],Nat.mul_le_mul (show _≤16 by omega) h2,by rw[hC];rfl,?_,fun W=>rplace_c n a0 a1 b0 b1 c0 c1 k W h1 h2 hk⟩
  rw[hC,hm]
  exact Rul.cell_lt (ruOf_ok h1 h2 a0 a1 b0 b1 c0 c1) k
 rw[← hC,← hm]
 clear hm hC
 go_enter Try.func6,Try.ntmps6
 go_upto_region 1 with fail
 have fsz:(w.alloc (.cells #[.int .i64 (n:Int),.int .i64 a0,.int .i64 a1,.int .i64 b0,.int .i64 b1,.int .i64 c0,.int .i64 c1] 24)).heap.size=w.heap.size+1:=by simp only[World.size_alloc]
 have fB:Below w.heap.size w (w.alloc (.cells #[.int .i64 (n:Int),.int .i64 a0,.int .i64 a1,.int .i64 b0,.int .i64 b1,.int .i64 c0,.int .i64 c1] 24)):=(Below.refl _ _).alloc (Nat.le_refl _) _
 have fq0:(w.alloc (.cells #[.int .i64 (n:Int),.int .i64 a0,.int .i64 a1,.int .i64 b0,.int .i64 b1,.int .i64 c0,.int .i64 c1] 24)).heap[w.heap.size]?=some (.cells #[.int .i64 (n:Int),.int .i64 a0,.int .i64 a1,.int .i64 b0,.int .i64 b1,.int .i64 c0,.int .i64 c1] 24 (0,0)):=by have h:=World.alloc_heap_new w (.cells #[.int .i64 (n:Int),.int .i64 a0,.int .i64 a1,.int .i64 b0,.int .i64 b1,.int .i64 c0,.int .i64 c1] 24);exact h
 generalize (w.alloc (.cells #[.int .i64 (n:Int),.int .i64 a0,.int .i64 a1,.int .i64 b0,.int .i64 b1,.int .i64 c0,.int .i64 c1] 24))=W0 at fsz fB fq0 ⊢
 have Q0:=Lib.hid fq0
 obtain ⟨⟨t0,t1,t2,t3,t4,t5,t6,tl⟩,_⟩:=c7_of fq0
 have hsz:=fB.size
 have hmm:=HMM.out
 clear fsz fq0
 go_upto_region 2 with (refine wpList_make_full _ rfl _ _ 29 rfl W0.heap.size 3 i0 (.int .i64 0) 1 Try.underlying29 hi hz0 hz1 _ _ _ _ m rfl rfl (by first|exact HMU.out|simp) (by first|exact HMU.out|simp) (by rw[hz2];omega) (by unfold maxLen;omega) (Nat.le_refl _) ?_;intro W4 hown4 hgr4;have hb4:Below W0.heap.size W0 W4:=(Below.refl W0.heap.size W0).grown hgr4 (Nat.le_refl _) (fun k e=>by cases e))
 rw[made_zer m] at hown4
 have HST:Hid (MeI w n a0 a1 b0 b1 c0 c1 W0.heap.size m (layC m C 0) W4):=⟨keepq hb4 Q0.out,owns_base hown4 (by omega),keep_trans fB hb4,by omega⟩
 generalize W0.heap.size=g at HST ⊢
 clear hown4 hgr4 hb4 t0 t1 t2 t3 t4 t5 t6 tl Q0 fB hsz
 go_wp2_with fail
 go_loopw [5,6,7] (fun s5 _ _ wr=>∃k:Nat,k≤m∧s5 = .int .i64 ((k+1:Nat):Int)∧Hid (MeI w n a0 a1 b0 b1 c0 c1 g m (layC m C k) wr)∧Hid (∀j,j<k→(layC m C j)[C j]?.getD 0=0)) (fun s5 _ _ _=>m+1 - (intOf s5).toNat)
 case atStart=>exact ⟨0,by omega,rfl,HST,fun j hj=>absurd hj (by omega)⟩
 case round =>
  obtain ⟨k,hk,rfl,hI,hp⟩:=hrel
  clear HST
  obtain ⟨⟨t0,t1,t2,t3,t4,t5,t6,tl⟩,_⟩:=c7_of hI.out.q
  by_cases hlt:k<m
  ·obtain ⟨u0,u1,v,l0,l1,e1,l2,e2,l3,hcl⟩:=HP.out k hlt
   have HCL:=Lib.hid hcl
   have HS0:Hid ((layC m C k)[C k]?.getD 0=0∨0<(layC m C k)[C k]?.getD 0):=layC_sign l3 k
   have HSET:Hid ((layC m C k).set (C k) ((k:Int)+1)=layC m C (k+1)):=rfl
   have HKK:Hid (NoM m C→(layC m C k)[C k]?.getD 0=0):=fun h=>h k hlt
   obtain ⟨z,hz⟩:∃z,z=(layC m C k)[C k]?.getD 0:=⟨_,rfl⟩
   have HPK:Hid (z=0→∀j,j<k+1→(layC m C j)[C j]?.getD 0=0):=fun h j hj=>by
    rcases Nat.lt_or_ge j k with e|e
    ·exact hp.out j e
    ·rw[show j=k by omega,← hz];exact h
   rw[e2] at hz l3 HSET HS0 HKK
   rw[← hz] at HS0 HKK
   have hci:(v:Int)+(u1:Int)<(m:Int):=by omega
   have HZ:=Lib.hid hz
   clear hz hcl e2
   rcases HS0.out with h0|h0
   ·subst h0
    have hd:decide ((0:Int)<0)=false:=rfl
    go_upto_region 6 with (first|(go_at_call 17;refine (HCL.out _).mono ?_;rintro _ w1 ⟨rfl,hb1⟩)|fail)
    have hI1:=Lib.hid (hI.out.keep hb1)
    clear t0 t1 t2 t3 t4 t5 t6 tl
    obtain ⟨⟨t0,t1,t2,t3,t4,t5,t6,tl⟩,_⟩:=c7_of hI1.out.q
    obtain ⟨y0,y1,y2⟩:=hI1.out.cell l3
    rw[← HZ.out] at y0
    go_wp2_with fail
    go_roundw
    case rel =>
     have h9:=hI1.out.set (v+u1) ((k:Int)+1)
     rw[HSET.out] at h9
     exact ⟨k+1,by omega,by go_num,h9,HPK.out (by trivial)⟩
    case measure=>simp[intOf];omega
   ·have hd:decide ((0:Int)<z)=true:=decide_eq_true h0
    go_upto_region 6 with (first|(go_at_call 17;refine (HCL.out _).mono ?_;rintro _ w1 ⟨rfl,hb1⟩)|fail)
    have hI1:=Lib.hid (hI.out.keep hb1)
    clear t0 t1 t2 t3 t4 t5 t6 tl
    obtain ⟨⟨t0,t1,t2,t3,t4,t5,t6,tl⟩,_⟩:=c7_of hI1.out.q
    obtain ⟨y0,y1,y2⟩:=hI1.out.cell l3
    rw[← HZ.out] at y0
    go_wp2_with fail
    refine bodyPost_ret (v := .tuple #[.int .i64 z,.int .i64 ((k+1:Nat):Int)]) ?_ rfl ⟨⟨_,_,rfl,.inr ⟨fun h=>by have:=HKK.out h;omega,by omega⟩⟩,hI1.out.below⟩
    simp[results,Try.f6,go_sem]
  ·have e:k=m:=by omega
   subst e
   go_wp2_with fail
   refine bodyPost_ret (v := .tuple #[.int .i64 0,.int .i64 0]) ?_ rfl ⟨⟨_,_,rfl,.inl ⟨hp.out,rfl⟩⟩,hI.out.below⟩
   simp[results,Try.f6,go_sem]
end
section
open Go Go.RowKit
attribute [local go_sem] over_cell
attribute [local go_sem] Oper.semAt_some
def isPan (s:ByteArray):Bool:=s.toList==[112,97,110,100,105,97,103,111,110,97,108]
theorem loomin_c (a:Option Addr) (n c:Nat) (l:List ByteArray) (w:World) (h:SC w a n l) :
  Calls Try.prog 13 #[.slice a n c,.string ⟨#[112,97,110,100,105,97,103,111,110,97,108]⟩] w fun e w'=>e = .returned (.bool (l.any isPan))∧Below w.heap.size w w':=by
 have HH:=Lib.hid h
 have HL:Hid (l.length=n):=h.1.1
 have hn:=h.1.2
 clear h
 go_enter Try.func13,Try.ntmps13
 go_wp2_with fail
 go_loopw [6,9] (fun _ s9 wr=>∃k:Nat,k≤n∧s9 = .int .i64 (k:Int)∧Hid (∀j,j<k→isPan (l[j]?.getD ⟨#[]⟩)=false)∧wr=w) (fun _ s9 _=>n - (intOf s9).toNat)
 case atStart=>exact ⟨0,by omega,rfl,fun j hj=>absurd hj (by omega),rfl⟩
 case round =>
  obtain ⟨k,hk,rfl,hp,hwr⟩:=hrel
  replace hwr:=hwr.symm
  subst hwr
  by_cases hlt:k<n
  ·have hki:(k:Int)<(n:Int):=by omega
   obtain ⟨b,off,rfl,hb,hc⟩:=HH.out.2 k hlt
   have HE:Hid (l[k]?.getD ⟨#[]⟩∈l):=by unfold Hid;rw[List.getElem?_eq_getElem (by rw[HL.out];exact hlt)];exact List.getElem_mem _
   obtain ⟨s,hs⟩:∃s,s=l[k]?.getD ⟨#[]⟩:=⟨_,rfl⟩
   rw[← hs] at hc HE
   have HS:=Lib.hid hs
   clear hs
   by_cases hg:isPan s=true
   ·have hg2:(s.toList==[112,97,110,100,105,97,103,111,110,97,108])=true:=hg
    have HY:Hid (l.any isPan=true):=List.any_eq_true.2 ⟨s,HE.out,hg⟩
    go_wp2_with fail
    refine bodyPost_ret (v := .bool true) ?_ rfl ⟨by rw[HY.out],Below.refl _ _⟩
    simp[results,Try.f13,go_sem]
   ·have hg2:(s.toList==[112,97,110,100,105,97,103,111,110,97,108])=false:=by simpa [isPan] using hg
    go_wp2_with fail
    go_roundw
    case rel=>exact ⟨k+1,by omega,by go_num,fun j hj=>by
     rcases Nat.lt_or_ge j k with e|e
     ·exact hp.out j e
     ·rw[show j=k by omega,← HS.out];simpa using hg,trivial⟩
    case measure=>simp[intOf];omega
  ·have hki:¬(k:Int)<(n:Int):=by omega
   have HY:Hid (l.any isPan=false):=List.any_eq_false.2 fun s hs=>by
    obtain ⟨j,hj,rfl⟩:=List.getElem_of_mem hs
    have:=hp.out j (by rw[HL.out] at hj;omega)
    rw[List.getElem?_eq_getElem hj,Option.getD_some] at this
    rw[this];decide
   go_wp2_with fail
   refine bodyPost_ret (v := .bool false) ?_ rfl ⟨by rw[HY.out],Below.refl _ _⟩
   simp[results,Try.f13,go_sem]
theorem names_pan (n:Nat) (cs:List Int):(kNames n cs 7).any isPan=kPan n cs:=by
 have h:∀i,i<7→isPan (kStr i)=decide (i=5):=by
  decide +kernel
 unfold kNames
 rw[List.any_map]
 cases hk:kPan n cs with
 | true =>
  rw[List.any_eq_true]
  refine ⟨5,?_,by rw[Function.comp,h 5 (by omega)];rfl⟩
  unfold kindTo
  rw[List.mem_filter]
  exact ⟨List.mem_range.2 (by omega),hk⟩
 | false =>
  rw[List.any_eq_false]
  intro i hi
  unfold kindTo at hi
  rw[List.mem_filter] at hi
  have h7:=List.mem_range.1 hi.1
  rw[Function.comp,h i h7]
  by_cases e:i=5
  ·subst e
   have h2:kPan n cs=true:=hi.2
   rw[hk] at h2;cases h2
  ·simp[e]
end
end Go.Proofs.Ytpkghjoippcjeaa
