/- Texts J107 to J107 of this proof, in one file. -/
import Derived.Test.YtmfpdakaeagdpaaGreatW05
import Derived.Test.YtmfpdakaeagdpaaGreatW28
import Derived.Test.YtmfpdakaeagdpaaGreatW29
namespace Go.Proofs.YtmfpdakaeagdpaaGreat
set_option maxRecDepth 100000
set_option maxHeartbeats 16000000
section
open Go Go.RowKit
attribute [local go_sem] over_cell
attribute [local go_sem] Oper.semAt_some
theorem lmeets_g1 (r C:Int) (a:Option Addr) (n c:Nat) (r2 C2:Int) (a2:Option Addr) (n2 c2:Nat) (w:World) (hg:64<n):Calls Tryz.prog 9 #[.agg #[.int .i64 r,.int .i64 C,.slice a n c],.agg #[.int .i64 r2,.int .i64 C2,.slice a2 n2 c2]] w fun e w'=>e = .returned (.bool true)∧Below w.heap.size w w':=by
 have hgI:decide ((64:Int)<(n:Int))=true:=decide_eq_true (by omega)
 go_enter Tryz.func9,Tryz.ntmps9
 go_upto_region 1 with fail
 have fsz:((w.alloc (.cells #[.int .i64 r,.int .i64 C,.slice a n c] 24)).alloc (.cells #[.int .i64 r2,.int .i64 C2,.slice a2 n2 c2] 24)).heap.size=w.heap.size+2:=by simp only[World.size_alloc] <;> omega
 have fB:Below w.heap.size w ((w.alloc (.cells #[.int .i64 r,.int .i64 C,.slice a n c] 24)).alloc (.cells #[.int .i64 r2,.int .i64 C2,.slice a2 n2 c2] 24)):=((Below.refl _ _).alloc (Nat.le_refl _) _).alloc (by simp only[World.size_alloc];omega) _
 have fq0:((w.alloc (.cells #[.int .i64 r,.int .i64 C,.slice a n c] 24)).alloc (.cells #[.int .i64 r2,.int .i64 C2,.slice a2 n2 c2] 24)).heap[w.heap.size]?=some (.cells #[.int .i64 r,.int .i64 C,.slice a n c] 24 (0,0)):=by have h:=World.alloc_heap_new w (.cells #[.int .i64 r,.int .i64 C,.slice a n c] 24);exact (Below.heap_alloc _ _ _ (by simp only[World.size_alloc];omega)).trans (h)
 have fq1:((w.alloc (.cells #[.int .i64 r,.int .i64 C,.slice a n c] 24)).alloc (.cells #[.int .i64 r2,.int .i64 C2,.slice a2 n2 c2] 24)).heap[w.heap.size+1]?=some (.cells #[.int .i64 r2,.int .i64 C2,.slice a2 n2 c2] 24 (0,0)):=by have h:=World.alloc_heap_new (w.alloc (.cells #[.int .i64 r,.int .i64 C,.slice a n c] 24)) (.cells #[.int .i64 r2,.int .i64 C2,.slice a2 n2 c2] 24);simp only[World.size_alloc] at h;exact h
 generalize ((w.alloc (.cells #[.int .i64 r,.int .i64 C,.slice a n c] 24)).alloc (.cells #[.int .i64 r2,.int .i64 C2,.slice a2 n2 c2] 24))=W0 at fsz fB fq0 fq1 ⊢
 have Q0:=Lib.hid fq0
 have Q1:=Lib.hid fq1
 have FB:=Lib.hid fB
 obtain ⟨x0,x1,x2,xl⟩:=c3_of fq0
 obtain ⟨y0,y1,y2,yl⟩:=c3_of fq1
 clear fq0 fq1 fsz fB
 go_wp2_with (first|(go_at_call 19;refine (lgreat_c _ _ _ _ _ 64 _).mono ?_;rintro _ w1 ⟨rfl,hbw1⟩;have hkw1:Below W0.heap.size W0 w1:=(by (repeat (first|assumption|exact Below.refl _ _|refine keep_drew ?_|refine keep_alloc ?_ _|refine keep_trans ?_ (by assumption))));obtain ⟨xw10,xw11,xw12,xw1l⟩:=c3_of (keepq hkw1 Q0.out);obtain ⟨yw10,yw11,yw12,yw1l⟩:=c3_of (keepq hkw1 Q1.out))|(go_at_call 20;refine (awake4_c _).mono ?_;rintro _ wz ⟨rfl,hbz⟩)|fail)
 refine bodyPost_ret (v := .bool true) ?_ rfl ⟨rfl,keep_trans FB.out (show Below W0.heap.size W0 wz by (repeat (first|assumption|exact Below.refl _ _|refine keep_drew ?_|refine keep_alloc ?_ _|refine keep_trans ?_ (by assumption))))⟩
 simp[results,Tryz.f9,go_sem]
theorem lmeets_g2 (r C:Int) (a:Option Addr) (n c:Nat) (r2 C2:Int) (a2:Option Addr) (n2 c2:Nat) (w:World) (hg0:¬64<n) (hg:64<n2):Calls Tryz.prog 9 #[.agg #[.int .i64 r,.int .i64 C,.slice a n c],.agg #[.int .i64 r2,.int .i64 C2,.slice a2 n2 c2]] w fun e w'=>e = .returned (.bool true)∧Below w.heap.size w w':=by
 have hgI0:decide ((64:Int)<(n:Int))=false:=decide_eq_false (by omega)
 have hgI:decide ((64:Int)<(n2:Int))=true:=decide_eq_true (by omega)
 go_enter Tryz.func9,Tryz.ntmps9
 go_upto_region 1 with fail
 have fsz:((w.alloc (.cells #[.int .i64 r,.int .i64 C,.slice a n c] 24)).alloc (.cells #[.int .i64 r2,.int .i64 C2,.slice a2 n2 c2] 24)).heap.size=w.heap.size+2:=by simp only[World.size_alloc] <;> omega
 have fB:Below w.heap.size w ((w.alloc (.cells #[.int .i64 r,.int .i64 C,.slice a n c] 24)).alloc (.cells #[.int .i64 r2,.int .i64 C2,.slice a2 n2 c2] 24)):=((Below.refl _ _).alloc (Nat.le_refl _) _).alloc (by simp only[World.size_alloc];omega) _
 have fq0:((w.alloc (.cells #[.int .i64 r,.int .i64 C,.slice a n c] 24)).alloc (.cells #[.int .i64 r2,.int .i64 C2,.slice a2 n2 c2] 24)).heap[w.heap.size]?=some (.cells #[.int .i64 r,.int .i64 C,.slice a n c] 24 (0,0)):=by have h:=World.alloc_heap_new w (.cells #[.int .i64 r,.int .i64 C,.slice a n c] 24);exact (Below.heap_alloc _ _ _ (by simp only[World.size_alloc];omega)).trans (h)
 have fq1:((w.alloc (.cells #[.int .i64 r,.int .i64 C,.slice a n c] 24)).alloc (.cells #[.int .i64 r2,.int .i64 C2,.slice a2 n2 c2] 24)).heap[w.heap.size+1]?=some (.cells #[.int .i64 r2,.int .i64 C2,.slice a2 n2 c2] 24 (0,0)):=by have h:=World.alloc_heap_new (w.alloc (.cells #[.int .i64 r,.int .i64 C,.slice a n c] 24)) (.cells #[.int .i64 r2,.int .i64 C2,.slice a2 n2 c2] 24);simp only[World.size_alloc] at h;exact h
 generalize ((w.alloc (.cells #[.int .i64 r,.int .i64 C,.slice a n c] 24)).alloc (.cells #[.int .i64 r2,.int .i64 C2,.slice a2 n2 c2] 24))=W0 at fsz fB fq0 fq1 ⊢
 have Q0:=Lib.hid fq0
 have Q1:=Lib.hid fq1
 have FB:=Lib.hid fB
 obtain ⟨x0,x1,x2,xl⟩:=c3_of fq0
 obtain ⟨y0,y1,y2,yl⟩:=c3_of fq1
 clear fq0 fq1 fsz fB
 go_wp2_with (first|(go_at_call 19;(with_reducible refine (lgreat_c r C a n c 64 _).mono ?_);rintro _ w1 ⟨rfl,hbw1⟩;have hkw1:Below W0.heap.size W0 w1:=(by (repeat (first|assumption|exact Below.refl _ _|refine keep_drew ?_|refine keep_alloc ?_ _|refine keep_trans ?_ (by assumption))));obtain ⟨xw10,xw11,xw12,xw1l⟩:=c3_of (keepq hkw1 Q0.out);obtain ⟨yw10,yw11,yw12,yw1l⟩:=c3_of (keepq hkw1 Q1.out))|(go_at_call 19;(with_reducible refine (lgreat_c r2 C2 a2 n2 c2 64 _).mono ?_);rintro _ w2 ⟨rfl,hbw2⟩)|(go_at_call 20;refine (awake4_c _).mono ?_;rintro _ wz ⟨rfl,hbz⟩)|fail)
 refine bodyPost_ret (v := .bool true) ?_ rfl ⟨rfl,keep_trans FB.out (show Below W0.heap.size W0 wz by (repeat (first|assumption|exact Below.refl _ _|refine keep_drew ?_|refine keep_alloc ?_ _|refine keep_trans ?_ (by assumption))))⟩
 simp[results,Tryz.f9,go_sem]
theorem lmeets_a (r C:Int) (a:Option Addr) (n c:Nat) (r2 C2:Int) (a2:Option Addr) (n2 c2:Nat) (w:World) (hg0:¬64<n) (hg:¬64<n2) (ea:Int) (h0:ea≠0)
  (HO:∀W,Below w.heap.size w W→Calls Tryz.prog 45 #[.agg #[.int .i64 r,.int .i64 C,.slice a n c],.agg #[.int .i64 r2,.int .i64 C2,.slice a2 n2 c2]] W fun e w'=>e = .returned (.tuple #[.bool false,.int .i64 ea])∧Below W.heap.size W w')
  (HM:∀W,Below w.heap.size w W→Calls Tryz.prog 46 #[.agg #[.int .i64 r,.int .i64 C,.slice a n c],.agg #[.int .i64 r2,.int .i64 C2,.slice a2 n2 c2]] W fun e w'=>e = .returned (.tuple #[.int .i64 0,.int .i64 0,.int .i64 ea])∧Below W.heap.size W w')
  (HA:∀W,Below w.heap.size w W→Calls Tryz.prog 22 #[.agg #[.int .i64 r,.int .i64 C,.slice a n c]] W fun e w'=>e = .returned (.int .i64 ea)∧Below W.heap.size W w')
  : Calls Tryz.prog 9 #[.agg #[.int .i64 r,.int .i64 C,.slice a n c],.agg #[.int .i64 r2,.int .i64 C2,.slice a2 n2 c2]] w fun e w'=>e = .returned (.bool true)∧Below w.heap.size w w':=by
 have hgI0:decide ((64:Int)<(n:Int))=false:=decide_eq_false (by omega)
 have hgI:decide ((64:Int)<(n2:Int))=false:=decide_eq_false (by omega)
 have HO:=Lib.hid HO
 have HM:=Lib.hid HM
 have HA:=Lib.hid HA
 have e1:(ea==0)=false:=by simpa using h0
 have e2:(ea != 0)=true:=by simpa using h0
 have e3:(ea==ea)=true:=by simp
 clear h0
 go_enter Tryz.func9,Tryz.ntmps9
 go_upto_region 1 with fail
 have fsz:((w.alloc (.cells #[.int .i64 r,.int .i64 C,.slice a n c] 24)).alloc (.cells #[.int .i64 r2,.int .i64 C2,.slice a2 n2 c2] 24)).heap.size=w.heap.size+2:=by simp only[World.size_alloc] <;> omega
 have fB:Below w.heap.size w ((w.alloc (.cells #[.int .i64 r,.int .i64 C,.slice a n c] 24)).alloc (.cells #[.int .i64 r2,.int .i64 C2,.slice a2 n2 c2] 24)):=((Below.refl _ _).alloc (Nat.le_refl _) _).alloc (by simp only[World.size_alloc];omega) _
 have fq0:((w.alloc (.cells #[.int .i64 r,.int .i64 C,.slice a n c] 24)).alloc (.cells #[.int .i64 r2,.int .i64 C2,.slice a2 n2 c2] 24)).heap[w.heap.size]?=some (.cells #[.int .i64 r,.int .i64 C,.slice a n c] 24 (0,0)):=by have h:=World.alloc_heap_new w (.cells #[.int .i64 r,.int .i64 C,.slice a n c] 24);exact (Below.heap_alloc _ _ _ (by simp only[World.size_alloc];omega)).trans (h)
 have fq1:((w.alloc (.cells #[.int .i64 r,.int .i64 C,.slice a n c] 24)).alloc (.cells #[.int .i64 r2,.int .i64 C2,.slice a2 n2 c2] 24)).heap[w.heap.size+1]?=some (.cells #[.int .i64 r2,.int .i64 C2,.slice a2 n2 c2] 24 (0,0)):=by have h:=World.alloc_heap_new (w.alloc (.cells #[.int .i64 r,.int .i64 C,.slice a n c] 24)) (.cells #[.int .i64 r2,.int .i64 C2,.slice a2 n2 c2] 24);simp only[World.size_alloc] at h;exact h
 generalize ((w.alloc (.cells #[.int .i64 r,.int .i64 C,.slice a n c] 24)).alloc (.cells #[.int .i64 r2,.int .i64 C2,.slice a2 n2 c2] 24))=W0 at fsz fB fq0 fq1 ⊢
 have Q0:=Lib.hid fq0
 have Q1:=Lib.hid fq1
 have FB:=Lib.hid fB
 obtain ⟨x0,x1,x2,xl⟩:=c3_of fq0
 obtain ⟨y0,y1,y2,yl⟩:=c3_of fq1
 clear fq0 fq1 fsz fB
 go_wp2_with (first|(go_at_call 19;(with_reducible refine (lgreat_c r C a n c 64 _).mono ?_);rintro _ w1 ⟨rfl,hbw1⟩;have hkw1:Below W0.heap.size W0 w1:=(by (repeat (first|assumption|exact Below.refl _ _|refine keep_drew ?_|refine keep_alloc ?_ _|refine keep_trans ?_ (by assumption))));obtain ⟨xw10,xw11,xw12,xw1l⟩:=c3_of (keepq hkw1 Q0.out);obtain ⟨yw10,yw11,yw12,yw1l⟩:=c3_of (keepq hkw1 Q1.out))|(go_at_call 19;(with_reducible refine (lgreat_c r2 C2 a2 n2 c2 64 _).mono ?_);rintro _ w2 ⟨rfl,hbw2⟩;have hkw2:Below W0.heap.size W0 w2:=(by (repeat (first|assumption|exact Below.refl _ _|refine keep_drew ?_|refine keep_alloc ?_ _|refine keep_trans ?_ (by assumption))));obtain ⟨xw20,xw21,xw22,xw2l⟩:=c3_of (keepq hkw2 Q0.out);obtain ⟨yw20,yw21,yw22,yw2l⟩:=c3_of (keepq hkw2 Q1.out))|(go_at_call 45;(with_reducible refine (HO.out _ (keep_trans FB.out (by (repeat (first|assumption|exact Below.refl _ _|refine keep_drew ?_|refine keep_alloc ?_ _|refine keep_trans ?_ (by assumption)))))).mono ?_);rintro _ w3 ⟨rfl,hbw3⟩;have hkw3:Below W0.heap.size W0 w3:=(by (repeat (first|assumption|exact Below.refl _ _|refine keep_drew ?_|refine keep_alloc ?_ _|refine keep_trans ?_ (by assumption))));obtain ⟨xw30,xw31,xw32,xw3l⟩:=c3_of (keepq hkw3 Q0.out);obtain ⟨yw30,yw31,yw32,yw3l⟩:=c3_of (keepq hkw3 Q1.out))|(go_at_call 46;(with_reducible refine (HM.out _ (keep_trans FB.out (by (repeat (first|assumption|exact Below.refl _ _|refine keep_drew ?_|refine keep_alloc ?_ _|refine keep_trans ?_ (by assumption)))))).mono ?_);rintro _ w4 ⟨rfl,hbw4⟩;have hkw4:Below W0.heap.size W0 w4:=(by (repeat (first|assumption|exact Below.refl _ _|refine keep_drew ?_|refine keep_alloc ?_ _|refine keep_trans ?_ (by assumption))));obtain ⟨xw40,xw41,xw42,xw4l⟩:=c3_of (keepq hkw4 Q0.out);obtain ⟨yw40,yw41,yw42,yw4l⟩:=c3_of (keepq hkw4 Q1.out))|(go_at_call 22;(with_reducible refine (HA.out _ (keep_trans FB.out (by (repeat (first|assumption|exact Below.refl _ _|refine keep_drew ?_|refine keep_alloc ?_ _|refine keep_trans ?_ (by assumption)))))).mono ?_);rintro _ w5 ⟨rfl,hbw5⟩;have hkw5:Below W0.heap.size W0 w5:=(by (repeat (first|assumption|exact Below.refl _ _|refine keep_drew ?_|refine keep_alloc ?_ _|refine keep_trans ?_ (by assumption))));obtain ⟨xw50,xw51,xw52,xw5l⟩:=c3_of (keepq hkw5 Q0.out);obtain ⟨yw50,yw51,yw52,yw5l⟩:=c3_of (keepq hkw5 Q1.out))|(go_at_call 20;refine (awake4_c _).mono ?_;rintro _ wz ⟨rfl,hbz⟩)|fail)
 refine bodyPost_ret (v := .bool true) ?_ rfl ⟨rfl,keep_trans FB.out (show Below W0.heap.size W0 wz by (repeat (first|assumption|exact Below.refl _ _|refine keep_drew ?_|refine keep_alloc ?_ _|refine keep_trans ?_ (by assumption))))⟩
 simp[results,Tryz.f9,go_sem]
theorem lmeets_b (r C:Int) (a:Option Addr) (n c:Nat) (r2 C2:Int) (a2:Option Addr) (n2 c2:Nat) (w:World) (hg0:¬64<n) (hg:¬64<n2) (eb:Int) (h0:eb≠0)
  (HO:∀W,Below w.heap.size w W→Calls Tryz.prog 45 #[.agg #[.int .i64 r,.int .i64 C,.slice a n c],.agg #[.int .i64 r2,.int .i64 C2,.slice a2 n2 c2]] W fun e w'=>e = .returned (.tuple #[.bool false,.int .i64 eb])∧Below W.heap.size W w')
  (HM:∀W,Below w.heap.size w W→Calls Tryz.prog 46 #[.agg #[.int .i64 r,.int .i64 C,.slice a n c],.agg #[.int .i64 r2,.int .i64 C2,.slice a2 n2 c2]] W fun e w'=>e = .returned (.tuple #[.int .i64 0,.int .i64 0,.int .i64 eb])∧Below W.heap.size W w')
  (HA:∀W,Below w.heap.size w W→Calls Tryz.prog 22 #[.agg #[.int .i64 r,.int .i64 C,.slice a n c]] W fun e w'=>e = .returned (.int .i64 0)∧Below W.heap.size W w')
  (HB:∀W,Below w.heap.size w W→Calls Tryz.prog 22 #[.agg #[.int .i64 r2,.int .i64 C2,.slice a2 n2 c2]] W fun e w'=>e = .returned (.int .i64 eb)∧Below W.heap.size W w')
  : Calls Tryz.prog 9 #[.agg #[.int .i64 r,.int .i64 C,.slice a n c],.agg #[.int .i64 r2,.int .i64 C2,.slice a2 n2 c2]] w fun e w'=>e = .returned (.bool true)∧Below w.heap.size w w':=by
 have hgI0:decide ((64:Int)<(n:Int))=false:=decide_eq_false (by omega)
 have hgI:decide ((64:Int)<(n2:Int))=false:=decide_eq_false (by omega)
 have HO:=Lib.hid HO
 have HM:=Lib.hid HM
 have HA:=Lib.hid HA
 have HB:=Lib.hid HB
 have e1:(eb==0)=false:=by simpa using h0
 have e2:(eb != 0)=true:=by simpa using h0
 have e3:(eb==eb)=true:=by simp
 clear h0
 go_enter Tryz.func9,Tryz.ntmps9
 go_upto_region 1 with fail
 have fsz:((w.alloc (.cells #[.int .i64 r,.int .i64 C,.slice a n c] 24)).alloc (.cells #[.int .i64 r2,.int .i64 C2,.slice a2 n2 c2] 24)).heap.size=w.heap.size+2:=by simp only[World.size_alloc] <;> omega
 have fB:Below w.heap.size w ((w.alloc (.cells #[.int .i64 r,.int .i64 C,.slice a n c] 24)).alloc (.cells #[.int .i64 r2,.int .i64 C2,.slice a2 n2 c2] 24)):=((Below.refl _ _).alloc (Nat.le_refl _) _).alloc (by simp only[World.size_alloc];omega) _
 have fq0:((w.alloc (.cells #[.int .i64 r,.int .i64 C,.slice a n c] 24)).alloc (.cells #[.int .i64 r2,.int .i64 C2,.slice a2 n2 c2] 24)).heap[w.heap.size]?=some (.cells #[.int .i64 r,.int .i64 C,.slice a n c] 24 (0,0)):=by have h:=World.alloc_heap_new w (.cells #[.int .i64 r,.int .i64 C,.slice a n c] 24);exact (Below.heap_alloc _ _ _ (by simp only[World.size_alloc];omega)).trans (h)
 have fq1:((w.alloc (.cells #[.int .i64 r,.int .i64 C,.slice a n c] 24)).alloc (.cells #[.int .i64 r2,.int .i64 C2,.slice a2 n2 c2] 24)).heap[w.heap.size+1]?=some (.cells #[.int .i64 r2,.int .i64 C2,.slice a2 n2 c2] 24 (0,0)):=by have h:=World.alloc_heap_new (w.alloc (.cells #[.int .i64 r,.int .i64 C,.slice a n c] 24)) (.cells #[.int .i64 r2,.int .i64 C2,.slice a2 n2 c2] 24);simp only[World.size_alloc] at h;exact h
 generalize ((w.alloc (.cells #[.int .i64 r,.int .i64 C,.slice a n c] 24)).alloc (.cells #[.int .i64 r2,.int .i64 C2,.slice a2 n2 c2] 24))=W0 at fsz fB fq0 fq1 ⊢
 have Q0:=Lib.hid fq0
 have Q1:=Lib.hid fq1
 have FB:=Lib.hid fB
 obtain ⟨x0,x1,x2,xl⟩:=c3_of fq0
 obtain ⟨y0,y1,y2,yl⟩:=c3_of fq1
 clear fq0 fq1 fsz fB
 go_wp2_with (first|(go_at_call 19;(with_reducible refine (lgreat_c r C a n c 64 _).mono ?_);rintro _ w1 ⟨rfl,hbw1⟩;have hkw1:Below W0.heap.size W0 w1:=(by (repeat (first|assumption|exact Below.refl _ _|refine keep_drew ?_|refine keep_alloc ?_ _|refine keep_trans ?_ (by assumption))));obtain ⟨xw10,xw11,xw12,xw1l⟩:=c3_of (keepq hkw1 Q0.out);obtain ⟨yw10,yw11,yw12,yw1l⟩:=c3_of (keepq hkw1 Q1.out))|(go_at_call 19;(with_reducible refine (lgreat_c r2 C2 a2 n2 c2 64 _).mono ?_);rintro _ w2 ⟨rfl,hbw2⟩;have hkw2:Below W0.heap.size W0 w2:=(by (repeat (first|assumption|exact Below.refl _ _|refine keep_drew ?_|refine keep_alloc ?_ _|refine keep_trans ?_ (by assumption))));obtain ⟨xw20,xw21,xw22,xw2l⟩:=c3_of (keepq hkw2 Q0.out);obtain ⟨yw20,yw21,yw22,yw2l⟩:=c3_of (keepq hkw2 Q1.out))|(go_at_call 45;(with_reducible refine (HO.out _ (keep_trans FB.out (by (repeat (first|assumption|exact Below.refl _ _|refine keep_drew ?_|refine keep_alloc ?_ _|refine keep_trans ?_ (by assumption)))))).mono ?_);rintro _ w3 ⟨rfl,hbw3⟩;have hkw3:Below W0.heap.size W0 w3:=(by (repeat (first|assumption|exact Below.refl _ _|refine keep_drew ?_|refine keep_alloc ?_ _|refine keep_trans ?_ (by assumption))));obtain ⟨xw30,xw31,xw32,xw3l⟩:=c3_of (keepq hkw3 Q0.out);obtain ⟨yw30,yw31,yw32,yw3l⟩:=c3_of (keepq hkw3 Q1.out))|(go_at_call 46;(with_reducible refine (HM.out _ (keep_trans FB.out (by (repeat (first|assumption|exact Below.refl _ _|refine keep_drew ?_|refine keep_alloc ?_ _|refine keep_trans ?_ (by assumption)))))).mono ?_);rintro _ w4 ⟨rfl,hbw4⟩;have hkw4:Below W0.heap.size W0 w4:=(by (repeat (first|assumption|exact Below.refl _ _|refine keep_drew ?_|refine keep_alloc ?_ _|refine keep_trans ?_ (by assumption))));obtain ⟨xw40,xw41,xw42,xw4l⟩:=c3_of (keepq hkw4 Q0.out);obtain ⟨yw40,yw41,yw42,yw4l⟩:=c3_of (keepq hkw4 Q1.out))|(go_at_call 22;(with_reducible refine (HA.out _ (keep_trans FB.out (by (repeat (first|assumption|exact Below.refl _ _|refine keep_drew ?_|refine keep_alloc ?_ _|refine keep_trans ?_ (by assumption)))))).mono ?_);rintro _ w5 ⟨rfl,hbw5⟩;have hkw5:Below W0.heap.size W0 w5:=(by (repeat (first|assumption|exact Below.refl _ _|refine keep_drew ?_|refine keep_alloc ?_ _|refine keep_trans ?_ (by assumption))));obtain ⟨xw50,xw51,xw52,xw5l⟩:=c3_of (keepq hkw5 Q0.out);obtain ⟨yw50,yw51,yw52,yw5l⟩:=c3_of (keepq hkw5 Q1.out))|(go_at_call 22;(with_reducible refine (HB.out _ (keep_trans FB.out (by (repeat (first|assumption|exact Below.refl _ _|refine keep_drew ?_|refine keep_alloc ?_ _|refine keep_trans ?_ (by assumption)))))).mono ?_);rintro _ w6 ⟨rfl,hbw6⟩;have hkw6:Below W0.heap.size W0 w6:=(by (repeat (first|assumption|exact Below.refl _ _|refine keep_drew ?_|refine keep_alloc ?_ _|refine keep_trans ?_ (by assumption))));obtain ⟨xw60,xw61,xw62,xw6l⟩:=c3_of (keepq hkw6 Q0.out);obtain ⟨yw60,yw61,yw62,yw6l⟩:=c3_of (keepq hkw6 Q1.out))|(go_at_call 20;refine (awake4_c _).mono ?_;rintro _ wz ⟨rfl,hbz⟩)|fail)
 refine bodyPost_ret (v := .bool true) ?_ rfl ⟨rfl,keep_trans FB.out (show Below W0.heap.size W0 wz by (repeat (first|assumption|exact Below.refl _ _|refine keep_drew ?_|refine keep_alloc ?_ _|refine keep_trans ?_ (by assumption))))⟩
 simp[results,Tryz.f9,go_sem]
theorem lmeets_r (r C:Int) (a:Option Addr) (n c:Nat) (r2 C2:Int) (a2:Option Addr) (n2 c2:Nat) (w:World) (hg0:¬64<n) (hg:¬64<n2) (h0:r≠r2)
  (HO:∀W,Below w.heap.size w W→Calls Tryz.prog 45 #[.agg #[.int .i64 r,.int .i64 C,.slice a n c],.agg #[.int .i64 r2,.int .i64 C2,.slice a2 n2 c2]] W fun e w'=>e = .returned (.tuple #[.bool false,.int .i64 2])∧Below W.heap.size W w')
  (HM:∀W,Below w.heap.size w W→Calls Tryz.prog 46 #[.agg #[.int .i64 r,.int .i64 C,.slice a n c],.agg #[.int .i64 r2,.int .i64 C2,.slice a2 n2 c2]] W fun e w'=>e = .returned (.tuple #[.int .i64 0,.int .i64 0,.int .i64 2])∧Below W.heap.size W w')
  (HA:∀W,Below w.heap.size w W→Calls Tryz.prog 22 #[.agg #[.int .i64 r,.int .i64 C,.slice a n c]] W fun e w'=>e = .returned (.int .i64 0)∧Below W.heap.size W w')
  (HB:∀W,Below w.heap.size w W→Calls Tryz.prog 22 #[.agg #[.int .i64 r2,.int .i64 C2,.slice a2 n2 c2]] W fun e w'=>e = .returned (.int .i64 0)∧Below W.heap.size W w')
  : Calls Tryz.prog 9 #[.agg #[.int .i64 r,.int .i64 C,.slice a n c],.agg #[.int .i64 r2,.int .i64 C2,.slice a2 n2 c2]] w fun e w'=>e = .returned (.bool true)∧Below w.heap.size w w':=by
 have hgI0:decide ((64:Int)<(n:Int))=false:=decide_eq_false (by omega)
 have hgI:decide ((64:Int)<(n2:Int))=false:=decide_eq_false (by omega)
 have HO:=Lib.hid HO
 have HM:=Lib.hid HM
 have HA:=Lib.hid HA
 have HB:=Lib.hid HB
 have e1:(r != r2)=true:=by simpa using h0
 clear h0
 go_enter Tryz.func9,Tryz.ntmps9
 go_upto_region 1 with fail
 have fsz:((w.alloc (.cells #[.int .i64 r,.int .i64 C,.slice a n c] 24)).alloc (.cells #[.int .i64 r2,.int .i64 C2,.slice a2 n2 c2] 24)).heap.size=w.heap.size+2:=by simp only[World.size_alloc] <;> omega
 have fB:Below w.heap.size w ((w.alloc (.cells #[.int .i64 r,.int .i64 C,.slice a n c] 24)).alloc (.cells #[.int .i64 r2,.int .i64 C2,.slice a2 n2 c2] 24)):=((Below.refl _ _).alloc (Nat.le_refl _) _).alloc (by simp only[World.size_alloc];omega) _
 have fq0:((w.alloc (.cells #[.int .i64 r,.int .i64 C,.slice a n c] 24)).alloc (.cells #[.int .i64 r2,.int .i64 C2,.slice a2 n2 c2] 24)).heap[w.heap.size]?=some (.cells #[.int .i64 r,.int .i64 C,.slice a n c] 24 (0,0)):=by have h:=World.alloc_heap_new w (.cells #[.int .i64 r,.int .i64 C,.slice a n c] 24);exact (Below.heap_alloc _ _ _ (by simp only[World.size_alloc];omega)).trans (h)
 have fq1:((w.alloc (.cells #[.int .i64 r,.int .i64 C,.slice a n c] 24)).alloc (.cells #[.int .i64 r2,.int .i64 C2,.slice a2 n2 c2] 24)).heap[w.heap.size+1]?=some (.cells #[.int .i64 r2,.int .i64 C2,.slice a2 n2 c2] 24 (0,0)):=by have h:=World.alloc_heap_new (w.alloc (.cells #[.int .i64 r,.int .i64 C,.slice a n c] 24)) (.cells #[.int .i64 r2,.int .i64 C2,.slice a2 n2 c2] 24);simp only[World.size_alloc] at h;exact h
 generalize ((w.alloc (.cells #[.int .i64 r,.int .i64 C,.slice a n c] 24)).alloc (.cells #[.int .i64 r2,.int .i64 C2,.slice a2 n2 c2] 24))=W0 at fsz fB fq0 fq1 ⊢
 have Q0:=Lib.hid fq0
 have Q1:=Lib.hid fq1
 have FB:=Lib.hid fB
 obtain ⟨x0,x1,x2,xl⟩:=c3_of fq0
 obtain ⟨y0,y1,y2,yl⟩:=c3_of fq1
 clear fq0 fq1 fsz fB
 go_wp2_with (first|(go_at_call 19;(with_reducible refine (lgreat_c r C a n c 64 _).mono ?_);rintro _ w1 ⟨rfl,hbw1⟩;have hkw1:Below W0.heap.size W0 w1:=(by (repeat (first|assumption|exact Below.refl _ _|refine keep_drew ?_|refine keep_alloc ?_ _|refine keep_trans ?_ (by assumption))));obtain ⟨xw10,xw11,xw12,xw1l⟩:=c3_of (keepq hkw1 Q0.out);obtain ⟨yw10,yw11,yw12,yw1l⟩:=c3_of (keepq hkw1 Q1.out))|(go_at_call 19;(with_reducible refine (lgreat_c r2 C2 a2 n2 c2 64 _).mono ?_);rintro _ w2 ⟨rfl,hbw2⟩;have hkw2:Below W0.heap.size W0 w2:=(by (repeat (first|assumption|exact Below.refl _ _|refine keep_drew ?_|refine keep_alloc ?_ _|refine keep_trans ?_ (by assumption))));obtain ⟨xw20,xw21,xw22,xw2l⟩:=c3_of (keepq hkw2 Q0.out);obtain ⟨yw20,yw21,yw22,yw2l⟩:=c3_of (keepq hkw2 Q1.out))|(go_at_call 45;(with_reducible refine (HO.out _ (keep_trans FB.out (by (repeat (first|assumption|exact Below.refl _ _|refine keep_drew ?_|refine keep_alloc ?_ _|refine keep_trans ?_ (by assumption)))))).mono ?_);rintro _ w3 ⟨rfl,hbw3⟩;have hkw3:Below W0.heap.size W0 w3:=(by (repeat (first|assumption|exact Below.refl _ _|refine keep_drew ?_|refine keep_alloc ?_ _|refine keep_trans ?_ (by assumption))));obtain ⟨xw30,xw31,xw32,xw3l⟩:=c3_of (keepq hkw3 Q0.out);obtain ⟨yw30,yw31,yw32,yw3l⟩:=c3_of (keepq hkw3 Q1.out))|(go_at_call 46;(with_reducible refine (HM.out _ (keep_trans FB.out (by (repeat (first|assumption|exact Below.refl _ _|refine keep_drew ?_|refine keep_alloc ?_ _|refine keep_trans ?_ (by assumption)))))).mono ?_);rintro _ w4 ⟨rfl,hbw4⟩;have hkw4:Below W0.heap.size W0 w4:=(by (repeat (first|assumption|exact Below.refl _ _|refine keep_drew ?_|refine keep_alloc ?_ _|refine keep_trans ?_ (by assumption))));obtain ⟨xw40,xw41,xw42,xw4l⟩:=c3_of (keepq hkw4 Q0.out);obtain ⟨yw40,yw41,yw42,yw4l⟩:=c3_of (keepq hkw4 Q1.out))|(go_at_call 22;(with_reducible refine (HA.out _ (keep_trans FB.out (by (repeat (first|assumption|exact Below.refl _ _|refine keep_drew ?_|refine keep_alloc ?_ _|refine keep_trans ?_ (by assumption)))))).mono ?_);rintro _ w5 ⟨rfl,hbw5⟩;have hkw5:Below W0.heap.size W0 w5:=(by (repeat (first|assumption|exact Below.refl _ _|refine keep_drew ?_|refine keep_alloc ?_ _|refine keep_trans ?_ (by assumption))));obtain ⟨xw50,xw51,xw52,xw5l⟩:=c3_of (keepq hkw5 Q0.out);obtain ⟨yw50,yw51,yw52,yw5l⟩:=c3_of (keepq hkw5 Q1.out))|(go_at_call 22;(with_reducible refine (HB.out _ (keep_trans FB.out (by (repeat (first|assumption|exact Below.refl _ _|refine keep_drew ?_|refine keep_alloc ?_ _|refine keep_trans ?_ (by assumption)))))).mono ?_);rintro _ w6 ⟨rfl,hbw6⟩;have hkw6:Below W0.heap.size W0 w6:=(by (repeat (first|assumption|exact Below.refl _ _|refine keep_drew ?_|refine keep_alloc ?_ _|refine keep_trans ?_ (by assumption))));obtain ⟨xw60,xw61,xw62,xw6l⟩:=c3_of (keepq hkw6 Q0.out);obtain ⟨yw60,yw61,yw62,yw6l⟩:=c3_of (keepq hkw6 Q1.out))|(go_at_call 20;refine (awake4_c _).mono ?_;rintro _ wz ⟨rfl,hbz⟩)|fail)
 refine bodyPost_ret (v := .bool true) ?_ rfl ⟨rfl,keep_trans FB.out (show Below W0.heap.size W0 wz by (repeat (first|assumption|exact Below.refl _ _|refine keep_drew ?_|refine keep_alloc ?_ _|refine keep_trans ?_ (by assumption))))⟩
 simp[results,Tryz.f9,go_sem]
theorem lmeets_n (r C:Int) (a:Option Addr) (n c:Nat) (r2 C2:Int) (a2:Option Addr) (n2 c2:Nat) (w:World) (hg0:¬64<n) (hg:¬64<n2) (h0:r=r2)
  (HO:∀W,Below w.heap.size w W→Calls Tryz.prog 45 #[.agg #[.int .i64 r,.int .i64 C,.slice a n c],.agg #[.int .i64 r2,.int .i64 C2,.slice a2 n2 c2]] W fun e w'=>e = .returned (.tuple #[.bool true,.int .i64 0])∧Below W.heap.size W w')
  (HM:∀W,Below w.heap.size w W→Calls Tryz.prog 46 #[.agg #[.int .i64 r,.int .i64 C,.slice a n c],.agg #[.int .i64 r2,.int .i64 C2,.slice a2 n2 c2]] W fun e w'=>e = .returned (.tuple #[.int .i64 0,.int .i64 0,.int .i64 7])∧Below W.heap.size W w')
  (HA:∀W,Below w.heap.size w W→Calls Tryz.prog 22 #[.agg #[.int .i64 r,.int .i64 C,.slice a n c]] W fun e w'=>e = .returned (.int .i64 0)∧Below W.heap.size W w')
  (HB:∀W,Below w.heap.size w W→Calls Tryz.prog 22 #[.agg #[.int .i64 r2,.int .i64 C2,.slice a2 n2 c2]] W fun e w'=>e = .returned (.int .i64 0)∧Below W.heap.size W w')
  (HR:∀W,Below w.heap.size w W→Calls Tryz.prog 47 #[.agg #[.int .i64 r,.int .i64 C,.slice a n c],.agg #[.int .i64 r2,.int .i64 C2,.slice a2 n2 c2]] W fun e w'=>e = .returned (.tuple #[.int .i64 0,.int .i64 0,.bool false])∧Below W.heap.size W w')
  : Calls Tryz.prog 9 #[.agg #[.int .i64 r,.int .i64 C,.slice a n c],.agg #[.int .i64 r2,.int .i64 C2,.slice a2 n2 c2]] w fun e w'=>e = .returned (.bool true)∧Below w.heap.size w w':=by
 have hgI0:decide ((64:Int)<(n:Int))=false:=decide_eq_false (by omega)
 have hgI:decide ((64:Int)<(n2:Int))=false:=decide_eq_false (by omega)
 have HO:=Lib.hid HO
 have HM:=Lib.hid HM
 have HA:=Lib.hid HA
 have HB:=Lib.hid HB
 have HR:=Lib.hid HR
 have e1:(r != r2)=false:=by simpa using h0
 clear h0
 go_enter Tryz.func9,Tryz.ntmps9
 go_upto_region 1 with fail
 have fsz:((w.alloc (.cells #[.int .i64 r,.int .i64 C,.slice a n c] 24)).alloc (.cells #[.int .i64 r2,.int .i64 C2,.slice a2 n2 c2] 24)).heap.size=w.heap.size+2:=by simp only[World.size_alloc] <;> omega
 have fB:Below w.heap.size w ((w.alloc (.cells #[.int .i64 r,.int .i64 C,.slice a n c] 24)).alloc (.cells #[.int .i64 r2,.int .i64 C2,.slice a2 n2 c2] 24)):=((Below.refl _ _).alloc (Nat.le_refl _) _).alloc (by simp only[World.size_alloc];omega) _
 have fq0:((w.alloc (.cells #[.int .i64 r,.int .i64 C,.slice a n c] 24)).alloc (.cells #[.int .i64 r2,.int .i64 C2,.slice a2 n2 c2] 24)).heap[w.heap.size]?=some (.cells #[.int .i64 r,.int .i64 C,.slice a n c] 24 (0,0)):=by have h:=World.alloc_heap_new w (.cells #[.int .i64 r,.int .i64 C,.slice a n c] 24);exact (Below.heap_alloc _ _ _ (by simp only[World.size_alloc];omega)).trans (h)
 have fq1:((w.alloc (.cells #[.int .i64 r,.int .i64 C,.slice a n c] 24)).alloc (.cells #[.int .i64 r2,.int .i64 C2,.slice a2 n2 c2] 24)).heap[w.heap.size+1]?=some (.cells #[.int .i64 r2,.int .i64 C2,.slice a2 n2 c2] 24 (0,0)):=by have h:=World.alloc_heap_new (w.alloc (.cells #[.int .i64 r,.int .i64 C,.slice a n c] 24)) (.cells #[.int .i64 r2,.int .i64 C2,.slice a2 n2 c2] 24);simp only[World.size_alloc] at h;exact h
 generalize ((w.alloc (.cells #[.int .i64 r,.int .i64 C,.slice a n c] 24)).alloc (.cells #[.int .i64 r2,.int .i64 C2,.slice a2 n2 c2] 24))=W0 at fsz fB fq0 fq1 ⊢
 have Q0:=Lib.hid fq0
 have Q1:=Lib.hid fq1
 have FB:=Lib.hid fB
 obtain ⟨x0,x1,x2,xl⟩:=c3_of fq0
 obtain ⟨y0,y1,y2,yl⟩:=c3_of fq1
 clear fq0 fq1 fsz fB
 go_wp2_with (first|(go_at_call 19;(with_reducible refine (lgreat_c r C a n c 64 _).mono ?_);rintro _ w1 ⟨rfl,hbw1⟩;have hkw1:Below W0.heap.size W0 w1:=(by (repeat (first|assumption|exact Below.refl _ _|refine keep_drew ?_|refine keep_alloc ?_ _|refine keep_trans ?_ (by assumption))));obtain ⟨xw10,xw11,xw12,xw1l⟩:=c3_of (keepq hkw1 Q0.out);obtain ⟨yw10,yw11,yw12,yw1l⟩:=c3_of (keepq hkw1 Q1.out))|(go_at_call 19;(with_reducible refine (lgreat_c r2 C2 a2 n2 c2 64 _).mono ?_);rintro _ w2 ⟨rfl,hbw2⟩;have hkw2:Below W0.heap.size W0 w2:=(by (repeat (first|assumption|exact Below.refl _ _|refine keep_drew ?_|refine keep_alloc ?_ _|refine keep_trans ?_ (by assumption))));obtain ⟨xw20,xw21,xw22,xw2l⟩:=c3_of (keepq hkw2 Q0.out);obtain ⟨yw20,yw21,yw22,yw2l⟩:=c3_of (keepq hkw2 Q1.out))|(go_at_call 45;(with_reducible refine (HO.out _ (keep_trans FB.out (by (repeat (first|assumption|exact Below.refl _ _|refine keep_drew ?_|refine keep_alloc ?_ _|refine keep_trans ?_ (by assumption)))))).mono ?_);rintro _ w3 ⟨rfl,hbw3⟩;have hkw3:Below W0.heap.size W0 w3:=(by (repeat (first|assumption|exact Below.refl _ _|refine keep_drew ?_|refine keep_alloc ?_ _|refine keep_trans ?_ (by assumption))));obtain ⟨xw30,xw31,xw32,xw3l⟩:=c3_of (keepq hkw3 Q0.out);obtain ⟨yw30,yw31,yw32,yw3l⟩:=c3_of (keepq hkw3 Q1.out))|(go_at_call 46;(with_reducible refine (HM.out _ (keep_trans FB.out (by (repeat (first|assumption|exact Below.refl _ _|refine keep_drew ?_|refine keep_alloc ?_ _|refine keep_trans ?_ (by assumption)))))).mono ?_);rintro _ w4 ⟨rfl,hbw4⟩;have hkw4:Below W0.heap.size W0 w4:=(by (repeat (first|assumption|exact Below.refl _ _|refine keep_drew ?_|refine keep_alloc ?_ _|refine keep_trans ?_ (by assumption))));obtain ⟨xw40,xw41,xw42,xw4l⟩:=c3_of (keepq hkw4 Q0.out);obtain ⟨yw40,yw41,yw42,yw4l⟩:=c3_of (keepq hkw4 Q1.out))|(go_at_call 22;(with_reducible refine (HA.out _ (keep_trans FB.out (by (repeat (first|assumption|exact Below.refl _ _|refine keep_drew ?_|refine keep_alloc ?_ _|refine keep_trans ?_ (by assumption)))))).mono ?_);rintro _ w5 ⟨rfl,hbw5⟩;have hkw5:Below W0.heap.size W0 w5:=(by (repeat (first|assumption|exact Below.refl _ _|refine keep_drew ?_|refine keep_alloc ?_ _|refine keep_trans ?_ (by assumption))));obtain ⟨xw50,xw51,xw52,xw5l⟩:=c3_of (keepq hkw5 Q0.out);obtain ⟨yw50,yw51,yw52,yw5l⟩:=c3_of (keepq hkw5 Q1.out))|(go_at_call 22;(with_reducible refine (HB.out _ (keep_trans FB.out (by (repeat (first|assumption|exact Below.refl _ _|refine keep_drew ?_|refine keep_alloc ?_ _|refine keep_trans ?_ (by assumption)))))).mono ?_);rintro _ w6 ⟨rfl,hbw6⟩;have hkw6:Below W0.heap.size W0 w6:=(by (repeat (first|assumption|exact Below.refl _ _|refine keep_drew ?_|refine keep_alloc ?_ _|refine keep_trans ?_ (by assumption))));obtain ⟨xw60,xw61,xw62,xw6l⟩:=c3_of (keepq hkw6 Q0.out);obtain ⟨yw60,yw61,yw62,yw6l⟩:=c3_of (keepq hkw6 Q1.out))|(go_at_call 47;(with_reducible refine (HR.out _ (keep_trans FB.out (by (repeat (first|assumption|exact Below.refl _ _|refine keep_drew ?_|refine keep_alloc ?_ _|refine keep_trans ?_ (by assumption)))))).mono ?_);rintro _ w7 ⟨rfl,hbw7⟩;have hkw7:Below W0.heap.size W0 w7:=(by (repeat (first|assumption|exact Below.refl _ _|refine keep_drew ?_|refine keep_alloc ?_ _|refine keep_trans ?_ (by assumption))));obtain ⟨xw70,xw71,xw72,xw7l⟩:=c3_of (keepq hkw7 Q0.out);obtain ⟨yw70,yw71,yw72,yw7l⟩:=c3_of (keepq hkw7 Q1.out))|(go_at_call 20;refine (awake4_c _).mono ?_;rintro _ wz ⟨rfl,hbz⟩)|fail)
 refine bodyPost_ret (v := .bool true) ?_ rfl ⟨rfl,keep_trans FB.out (show Below W0.heap.size W0 wz by (repeat (first|assumption|exact Below.refl _ _|refine keep_drew ?_|refine keep_alloc ?_ _|refine keep_trans ?_ (by assumption))))⟩
 simp[results,Tryz.f9,go_sem]
theorem lmeets_s (r C:Int) (a:Option Addr) (n c:Nat) (r2 C2:Int) (a2:Option Addr) (n2 c2:Nat) (w:World) (hg0:¬64<n) (hg:¬64<n2) (x y:Int) (h0:r=r2)
  (HO:∀W,Below w.heap.size w W→Calls Tryz.prog 45 #[.agg #[.int .i64 r,.int .i64 C,.slice a n c],.agg #[.int .i64 r2,.int .i64 C2,.slice a2 n2 c2]] W fun e w'=>e = .returned (.tuple #[.bool false,.int .i64 0])∧Below W.heap.size W w')
  (HM:∀W,Below w.heap.size w W→Calls Tryz.prog 46 #[.agg #[.int .i64 r,.int .i64 C,.slice a n c],.agg #[.int .i64 r2,.int .i64 C2,.slice a2 n2 c2]] W fun e w'=>e = .returned (.tuple #[.int .i64 x,.int .i64 y,.int .i64 0])∧Below W.heap.size W w')
  (HA:∀W,Below w.heap.size w W→Calls Tryz.prog 22 #[.agg #[.int .i64 r,.int .i64 C,.slice a n c]] W fun e w'=>e = .returned (.int .i64 0)∧Below W.heap.size W w')
  (HB:∀W,Below w.heap.size w W→Calls Tryz.prog 22 #[.agg #[.int .i64 r2,.int .i64 C2,.slice a2 n2 c2]] W fun e w'=>e = .returned (.int .i64 0)∧Below W.heap.size W w')
  (HR:∀W,Below w.heap.size w W→Calls Tryz.prog 47 #[.agg #[.int .i64 r,.int .i64 C,.slice a n c],.agg #[.int .i64 r2,.int .i64 C2,.slice a2 n2 c2]] W fun e w'=>e = .returned (.tuple #[.int .i64 x,.int .i64 y,.bool true])∧Below W.heap.size W w')
  : Calls Tryz.prog 9 #[.agg #[.int .i64 r,.int .i64 C,.slice a n c],.agg #[.int .i64 r2,.int .i64 C2,.slice a2 n2 c2]] w fun e w'=>e = .returned (.bool true)∧Below w.heap.size w w':=by
 have hgI0:decide ((64:Int)<(n:Int))=false:=decide_eq_false (by omega)
 have hgI:decide ((64:Int)<(n2:Int))=false:=decide_eq_false (by omega)
 have HO:=Lib.hid HO
 have HM:=Lib.hid HM
 have HA:=Lib.hid HA
 have HB:=Lib.hid HB
 have HR:=Lib.hid HR
 have e1:(r != r2)=false:=by simpa using h0
 have e2:(x==x)=true:=by simp
 have e3:(y==y)=true:=by simp
 clear h0
 go_enter Tryz.func9,Tryz.ntmps9
 go_upto_region 1 with fail
 have fsz:((w.alloc (.cells #[.int .i64 r,.int .i64 C,.slice a n c] 24)).alloc (.cells #[.int .i64 r2,.int .i64 C2,.slice a2 n2 c2] 24)).heap.size=w.heap.size+2:=by simp only[World.size_alloc] <;> omega
 have fB:Below w.heap.size w ((w.alloc (.cells #[.int .i64 r,.int .i64 C,.slice a n c] 24)).alloc (.cells #[.int .i64 r2,.int .i64 C2,.slice a2 n2 c2] 24)):=((Below.refl _ _).alloc (Nat.le_refl _) _).alloc (by simp only[World.size_alloc];omega) _
 have fq0:((w.alloc (.cells #[.int .i64 r,.int .i64 C,.slice a n c] 24)).alloc (.cells #[.int .i64 r2,.int .i64 C2,.slice a2 n2 c2] 24)).heap[w.heap.size]?=some (.cells #[.int .i64 r,.int .i64 C,.slice a n c] 24 (0,0)):=by have h:=World.alloc_heap_new w (.cells #[.int .i64 r,.int .i64 C,.slice a n c] 24);exact (Below.heap_alloc _ _ _ (by simp only[World.size_alloc];omega)).trans (h)
 have fq1:((w.alloc (.cells #[.int .i64 r,.int .i64 C,.slice a n c] 24)).alloc (.cells #[.int .i64 r2,.int .i64 C2,.slice a2 n2 c2] 24)).heap[w.heap.size+1]?=some (.cells #[.int .i64 r2,.int .i64 C2,.slice a2 n2 c2] 24 (0,0)):=by have h:=World.alloc_heap_new (w.alloc (.cells #[.int .i64 r,.int .i64 C,.slice a n c] 24)) (.cells #[.int .i64 r2,.int .i64 C2,.slice a2 n2 c2] 24);simp only[World.size_alloc] at h;exact h
 generalize ((w.alloc (.cells #[.int .i64 r,.int .i64 C,.slice a n c] 24)).alloc (.cells #[.int .i64 r2,.int .i64 C2,.slice a2 n2 c2] 24))=W0 at fsz fB fq0 fq1 ⊢
 have Q0:=Lib.hid fq0
 have Q1:=Lib.hid fq1
 have FB:=Lib.hid fB
 obtain ⟨x0,x1,x2,xl⟩:=c3_of fq0
 obtain ⟨y0,y1,y2,yl⟩:=c3_of fq1
 clear fq0 fq1 fsz fB
 go_wp2_with (first|(go_at_call 19;(with_reducible refine (lgreat_c r C a n c 64 _).mono ?_);rintro _ w1 ⟨rfl,hbw1⟩;have hkw1:Below W0.heap.size W0 w1:=(by (repeat (first|assumption|exact Below.refl _ _|refine keep_drew ?_|refine keep_alloc ?_ _|refine keep_trans ?_ (by assumption))));obtain ⟨xw10,xw11,xw12,xw1l⟩:=c3_of (keepq hkw1 Q0.out);obtain ⟨yw10,yw11,yw12,yw1l⟩:=c3_of (keepq hkw1 Q1.out))|(go_at_call 19;(with_reducible refine (lgreat_c r2 C2 a2 n2 c2 64 _).mono ?_);rintro _ w2 ⟨rfl,hbw2⟩;have hkw2:Below W0.heap.size W0 w2:=(by (repeat (first|assumption|exact Below.refl _ _|refine keep_drew ?_|refine keep_alloc ?_ _|refine keep_trans ?_ (by assumption))));obtain ⟨xw20,xw21,xw22,xw2l⟩:=c3_of (keepq hkw2 Q0.out);obtain ⟨yw20,yw21,yw22,yw2l⟩:=c3_of (keepq hkw2 Q1.out))|(go_at_call 45;(with_reducible refine (HO.out _ (keep_trans FB.out (by (repeat (first|assumption|exact Below.refl _ _|refine keep_drew ?_|refine keep_alloc ?_ _|refine keep_trans ?_ (by assumption)))))).mono ?_);rintro _ w3 ⟨rfl,hbw3⟩;have hkw3:Below W0.heap.size W0 w3:=(by (repeat (first|assumption|exact Below.refl _ _|refine keep_drew ?_|refine keep_alloc ?_ _|refine keep_trans ?_ (by assumption))));obtain ⟨xw30,xw31,xw32,xw3l⟩:=c3_of (keepq hkw3 Q0.out);obtain ⟨yw30,yw31,yw32,yw3l⟩:=c3_of (keepq hkw3 Q1.out))|(go_at_call 46;(with_reducible refine (HM.out _ (keep_trans FB.out (by (repeat (first|assumption|exact Below.refl _ _|refine keep_drew ?_|refine keep_alloc ?_ _|refine keep_trans ?_ (by assumption)))))).mono ?_);rintro _ w4 ⟨rfl,hbw4⟩;have hkw4:Below W0.heap.size W0 w4:=(by (repeat (first|assumption|exact Below.refl _ _|refine keep_drew ?_|refine keep_alloc ?_ _|refine keep_trans ?_ (by assumption))));obtain ⟨xw40,xw41,xw42,xw4l⟩:=c3_of (keepq hkw4 Q0.out);obtain ⟨yw40,yw41,yw42,yw4l⟩:=c3_of (keepq hkw4 Q1.out))|(go_at_call 22;(with_reducible refine (HA.out _ (keep_trans FB.out (by (repeat (first|assumption|exact Below.refl _ _|refine keep_drew ?_|refine keep_alloc ?_ _|refine keep_trans ?_ (by assumption)))))).mono ?_);rintro _ w5 ⟨rfl,hbw5⟩;have hkw5:Below W0.heap.size W0 w5:=(by (repeat (first|assumption|exact Below.refl _ _|refine keep_drew ?_|refine keep_alloc ?_ _|refine keep_trans ?_ (by assumption))));obtain ⟨xw50,xw51,xw52,xw5l⟩:=c3_of (keepq hkw5 Q0.out);obtain ⟨yw50,yw51,yw52,yw5l⟩:=c3_of (keepq hkw5 Q1.out))|(go_at_call 22;(with_reducible refine (HB.out _ (keep_trans FB.out (by (repeat (first|assumption|exact Below.refl _ _|refine keep_drew ?_|refine keep_alloc ?_ _|refine keep_trans ?_ (by assumption)))))).mono ?_);rintro _ w6 ⟨rfl,hbw6⟩;have hkw6:Below W0.heap.size W0 w6:=(by (repeat (first|assumption|exact Below.refl _ _|refine keep_drew ?_|refine keep_alloc ?_ _|refine keep_trans ?_ (by assumption))));obtain ⟨xw60,xw61,xw62,xw6l⟩:=c3_of (keepq hkw6 Q0.out);obtain ⟨yw60,yw61,yw62,yw6l⟩:=c3_of (keepq hkw6 Q1.out))|(go_at_call 47;(with_reducible refine (HR.out _ (keep_trans FB.out (by (repeat (first|assumption|exact Below.refl _ _|refine keep_drew ?_|refine keep_alloc ?_ _|refine keep_trans ?_ (by assumption)))))).mono ?_);rintro _ w7 ⟨rfl,hbw7⟩;have hkw7:Below W0.heap.size W0 w7:=(by (repeat (first|assumption|exact Below.refl _ _|refine keep_drew ?_|refine keep_alloc ?_ _|refine keep_trans ?_ (by assumption))));obtain ⟨xw70,xw71,xw72,xw7l⟩:=c3_of (keepq hkw7 Q0.out);obtain ⟨yw70,yw71,yw72,yw7l⟩:=c3_of (keepq hkw7 Q1.out))|(go_at_call 20;refine (awake4_c _).mono ?_;rintro _ wz ⟨rfl,hbz⟩)|fail)
 refine bodyPost_ret (v := .bool true) ?_ rfl ⟨rfl,keep_trans FB.out (show Below W0.heap.size W0 wz by (repeat (first|assumption|exact Below.refl _ _|refine keep_drew ?_|refine keep_alloc ?_ _|refine keep_trans ?_ (by assumption))))⟩
 simp[results,Tryz.f9,go_sem]
theorem lmeets_c (r C:Int) (a:Option Addr) (n c:Nat) (cs:List Int) (r2 C2:Int) (a2:Option Addr) (n2 c2:Nat) (ds:List Int) (w:World) (h:IC w a n cs) (_hcap:n≤c) (h2:IC w a2 n2 ds) (_hcap2:n2≤c2):Calls Tryz.prog 9 #[.agg #[.int .i64 r,.int .i64 C,.slice a n c],.agg #[.int .i64 r2,.int .i64 C2,.slice a2 n2 c2]] w fun e w'=>e = .returned (.bool true)∧Below w.heap.size w w':=by
 by_cases g1:64<n
 ·exact lmeets_g1 r C a n c r2 C2 a2 n2 c2 w g1
 by_cases g2:64<n2
 ·exact lmeets_g2 r C a n c r2 C2 a2 n2 c2 w g1 g2
 have HO:=fun W (hb:Below w.heap.size w W)=>orth_c r C r2 C2 a n c cs a2 n2 c2 ds W (h.mono hb) (h2.mono hb)
 have HM:=fun W (hb:Below w.heap.size w W)=>meet2_c r C r2 C2 a n c cs a2 n2 c2 ds W (h.mono hb) (h2.mono hb)
 have HA:=fun W (hb:Below w.heap.size w W)=>rcheck_c r C a n c cs W (h.mono hb)
 have HB:=fun W (hb:Below w.heap.size w W)=>rcheck_c r2 C2 a2 n2 c2 ds W (h2.mono hb)
 unfold orthV at HO
 unfold meetV at HM
 by_cases ha:sqE 0 r C cs=0
 ·by_cases hb:sqE 0 r2 C2 ds=0
  ·rw[ha] at HA
   rw[hb] at HB
   by_cases hr:r=r2
   ·have ht:twoE r C cs r2 C2 ds=0:=by unfold twoE;rw[ha,hb,hr];simp[firstL,whenV]
    rw[if_pos ht] at HO HM
    obtain ⟨N,h1,_,h3,_,L1,L2⟩:=twoE_ok ht
    have hl1:=h.len
    have hl2:=h2.len
    rw[L1.len] at hl1
    rw[L2.len] at hl2
    have HR:=fun W (hb:Below w.heap.size w W)=>rmeet_c r C r2 C2 a n c cs a2 n2 c2 ds W (h.mono hb) (h2.mono hb) (by omega) (by omega)
    unfold MeetV at HR
    cases hm:meetR cs ds with
    | none =>
     rw[hm] at HO HM HR
     exact lmeets_n r C a n c r2 C2 a2 n2 c2 w g1 g2 hr HO HM HA HB HR
    | some p =>
     obtain ⟨x,y⟩:=p
     rw[hm] at HO HM HR
     exact lmeets_s r C a n c r2 C2 a2 n2 c2 w g1 g2 (x:Int) (y:Int) hr HO HM HA HB HR
   ·have ht:twoE r C cs r2 C2 ds=2:=by
     have e:(r != r2)=true:=by simpa using hr
     unfold twoE;rw[ha,hb,e];simp[firstL,whenV]
    rw[if_neg (by rw[ht];decide),ht] at HO HM
    exact lmeets_r r C a n c r2 C2 a2 n2 c2 w g1 g2 hr HO HM HA HB
  ·have ht:twoE r C cs r2 C2 ds=sqE 0 r2 C2 ds:=by unfold twoE;rw[ha];simp[firstL,hb]
   rw[ha] at HA
   rw[if_neg (by rw[ht];exact hb),ht] at HO HM
   exact lmeets_b r C a n c r2 C2 a2 n2 c2 w g1 g2 _ hb HO HM HA HB
 ·have ht:twoE r C cs r2 C2 ds=sqE 0 r C cs:=by unfold twoE;simp[firstL,ha]
  rw[if_neg (by rw[ht];exact ha),ht] at HO HM
  exact lmeets_a r C a n c r2 C2 a2 n2 c2 w g1 g2 _ ha HO HM HA
end
end Go.Proofs.YtmfpdakaeagdpaaGreat
