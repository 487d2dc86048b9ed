/- Texts J79 to J81 of this proof, in one file. -/
import Derived.Test.YtpkghjoippcjeaaW06
import Derived.Test.YtpkghjoippcjeaaW10
namespace Go.Proofs.Ytpkghjoippcjeaa
set_option maxRecDepth 100000
set_option maxHeartbeats 16000000
section
open Go Go.RowKit
attribute [local go_sem] over_cell
attribute [local go_sem] Oper.semAt_some
theorem enterK21:∀args w,Sem.run Try.prog (callFunc 54 args) w = .ok (.enter 54 args) w:=by
 intro args w;kernel_rfl
theorem enterK31:∀args w,Sem.run Try.prog (callFunc 57 args) w = .ok (.enter 57 args) w:=by
 intro args w;kernel_rfl
theorem enterK41:∀args w,Sem.run Try.prog (callFunc 59 args) w = .ok (.enter 59 args) w:=by
 intro args w;kernel_rfl
theorem enterK51:∀args w,Sem.run Try.prog (callFunc 62 args) w = .ok (.enter 62 args) w:=by
 intro args w;kernel_rfl
theorem enterK52:∀args w,Sem.run Try.prog (callFunc 63 args) w = .ok (.enter 63 args) w:=by
 intro args w;kernel_rfl
theorem enterK61:∀args w,Sem.run Try.prog (callFunc 65 args) w = .ok (.enter 65 args) w:=by
 intro args w;kernel_rfl
theorem enterK611:∀args w,Sem.run Try.prog (callFunc 66 args) w = .ok (.enter 66 args) w:=by
 intro args w;kernel_rfl
theorem enterK612:∀args w,Sem.run Try.prog (callFunc 67 args) w = .ok (.enter 67 args) w:=by
 intro args w;kernel_rfl
theorem wrap_nat (d:Nat) (h:d≤100000):wrap64 (d:Int)=(d:Int):=by unfold wrap64;omega
theorem k31_c (N i b:Nat) (a:Option Addr) (m c:Nat) (cs:List Int) (w:World) (h:IC w a m cs) (L:Latin N cs) (hi:i<N) (q:w.heap[b]?=some (.cells #[.int .i64 (N:Int),.int .i64 (N:Int),.slice a m c] 31 (0,0))) :
  Calls Try.prog 57 #[.int .i64 (i:Int),.pointer (some ⟨b,0,none⟩)] w fun e w'=>e = .returned (.bool (cs[i*N+i]?.getD 0==(i:Int)))∧Below w.heap.size w w':=by
 have hN2:=L.le
 have hm:m=N*N:=by rw[← h.len];exact L.len
 obtain ⟨x0,x1,x2,xl⟩:=c3_of q
 have HAT:Hid (∀W,Below w.heap.size w W→Calls Try.prog 55 #[.agg #[.int .i64 (N:Int),.int .i64 (N:Int),.slice a m c],.int .i64 (i:Int),.int .i64 (i:Int)] W fun e w'=>e = .returned (.int .i64 (cs[i*N+i]?.getD 0))∧Below W.heap.size W w'):=fun W hb=>lat_c (N:Int) N i i a m c cs W (h.mono hb) (by omega) (by omega) hi (by rw[hm];exact gcell_lt hi hi)
 clear h hm q L
 go_enter Try.func57,Try.ntmps57
 go_wp2_with (first|(go_at_call 55;refine (HAT.out _ (by (repeat (first|assumption|exact Below.refl _ _|refine keep_drew ?_|refine keep_alloc ?_ _|refine keep_trans ?_ (by assumption))))).mono ?_;rintro _ w3 ⟨rfl,hb5⟩)|fail)
 refine bodyPost_ret (v := .bool (cs[i*N+i]?.getD 0==(i:Int))) ?_ rfl ⟨rfl,hb5⟩
 simp[results,Try.f57,go_sem]
theorem k3_c (N:Nat) (a:Option Addr) (m c:Nat) (cs:List Int) (w:World) (h:IC w a m cs) (L:Latin N cs) :
  Calls Try.prog 56 #[.agg #[.int .i64 (N:Int),.int .i64 (N:Int),.slice a m c]] w fun e w'=>e = .returned (.bool (kIde N cs))∧Below w.heap.size w w':=by
 have hN2:=L.le
 go_enter Try.func56,Try.ntmps56
 go_upto_region 1 with fail
 have fB:Below w.heap.size w (w.alloc (.cells #[.int .i64 (N:Int),.int .i64 (N:Int),.slice a m c] 31)):=(Below.refl _ _).alloc (Nat.le_refl _) _
 have FQ:Hid ((w.alloc (.cells #[.int .i64 (N:Int),.int .i64 (N:Int),.slice a m c] 31)).heap[w.heap.size]?=some (.cells #[.int .i64 (N:Int),.int .i64 (N:Int),.slice a m c] 31 (0,0))):=World.alloc_heap_new _ _
 generalize (w.alloc (.cells #[.int .i64 (N:Int),.int .i64 (N:Int),.slice a m c] 31))=W0 at fB FQ ⊢
 obtain ⟨x0,x1,x2,xl⟩:=c3_of FQ.out
 have hEV:=every_c N (by omega) 57 #[] #[.pointer (some ⟨w.heap.size,0,none⟩)] (fun i=>cs[i*N+i]?.getD 0==(i:Int)) (fun _ W=>Below W0.heap.size W0 W) W0 enterK31 (Below.refl _ _) (fun k hk W hb=>by
  refine (k31_c N k w.heap.size a m c cs W (h.mono (keep_trans fB hb)) L hk (keepq hb FQ.out)).mono ?_
  rintro e w' ⟨rfl,hb'⟩
  exact ⟨rfl,keep_trans hb hb'⟩)
 have HEV:=Lib.hid hEV
 clear hEV L h
 go_wp2_with (first|(go_at_call 53;refine HEV.out.mono ?_;rintro _ w6 ⟨rfl,k,hb6⟩)|fail)
 refine bodyPost_ret (v := .bool (kIde N cs)) ?_ rfl ⟨rfl,keep_trans fB hb6⟩
 simp[results,Try.f56,go_sem,kIde]
theorem k41_c (N i b:Nat) (a:Option Addr) (m c:Nat) (cs:List Int) (w:World) (h:IC w a m cs) (L:Latin N cs) (hi:i<N) (q:w.heap[b]?=some (.cells #[.int .i64 (N:Int),.int .i64 (N:Int),.slice a m c] 31 (0,0))) :
  Calls Try.prog 59 #[.int .i64 (i:Int),.pointer (some ⟨b,0,none⟩)] w fun e w'=>e = .returned (.bool (cs[i*N+i]?.getD 0==cs[0]?.getD 0))∧Below w.heap.size w w':=by
 have hN1:=L.pos
 have hN2:=L.le
 have hm:m=N*N:=by rw[← h.len];exact L.len
 obtain ⟨x0,x1,x2,xl⟩:=c3_of q
 have HAT:Hid (∀(i:Nat) W,Below w.heap.size w W→i<N→Calls Try.prog 55 #[.agg #[.int .i64 (N:Int),.int .i64 (N:Int),.slice a m c],.int .i64 (i:Int),.int .i64 (i:Int)] W fun e w'=>e = .returned (.int .i64 (cs[i*N+i]?.getD 0))∧Below W.heap.size W w'):=fun i W hb hi=>lat_c (N:Int) N i i a m c cs W (h.mono hb) (by omega) (by omega) hi (by rw[hm];exact gcell_lt hi hi)
 have HA0:Hid (∀W,Below w.heap.size w W→Calls Try.prog 55 #[.agg #[.int .i64 (N:Int),.int .i64 (N:Int),.slice a m c],.int .i64 0,.int .i64 0] W fun e w'=>e = .returned (.int .i64 (cs[0]?.getD 0))∧Below W.heap.size W w'):=fun W hb=>by have:=HAT.out 0 W hb (by omega);rw[Nat.zero_mul] at this;exact this
 have HAI:=Lib.hid (fun W hb=>HAT.out i W hb hi)
 generalize cs[i*N+i]?.getD 0=X at HAI ⊢
 generalize cs[0]?.getD 0=Y at HA0 ⊢
 clear h hm q L HAT
 go_enter Try.func59,Try.ntmps59
 go_upto_region 1 with fail
 refine wp_region_S (fun w'=>∃u,w'=over (w) u) [7] [(0,0),(0,1),(0,2),(0,4),(1,3),(1,5),(0,6),(2,7)] (by kernel_rfl) (by kernel_rfl) (by exact ⟨_,below_over (by repeat (first|assumption|exact Below.refl _ _|refine keep_drew ?_|refine keep_alloc ?_ _|refine keep_trans ?_ (by assumption)))⟩) ?_
 dsimp only[pickOps,nthOp]
 repeat (first|(refine wpS_skip rfl (fun K hK=>?_);go_big_quiet_op;refine hK _ ?_;clear hK K)|(refine wpS_quiet rfl rfl (fun K hK=>?_);go_big_quiet_op;refine hK _ ?_;clear hK K)|(refine wpS_loud ?_;go_wp2_with (first|(go_at_call 55;with_reducible refine (HA0.out _ (by (repeat (first|assumption|exact Below.refl _ _|refine keep_drew ?_|refine keep_alloc ?_ _|refine keep_trans ?_ (by assumption))))).mono ?_;rintro _ w3 ⟨rfl,hb5⟩)|(go_at_call 55;with_reducible refine (HAI.out _ (by (repeat (first|assumption|exact Below.refl _ _|refine keep_drew ?_|refine keep_alloc ?_ _|refine keep_trans ?_ (by assumption))))).mono ?_;rintro _ w4 ⟨rfl,hb6⟩)|fail);refine ⟨?_,?_⟩;focus (exact ⟨_,below_over (by repeat (first|assumption|exact Below.refl _ _|refine keep_drew ?_|refine keep_alloc ?_ _|refine keep_trans ?_ (by assumption)))⟩)))
 refine wpS_late _ _ _ rfl ?_
 dsimp only[List.map]
 go_wp2_with (first|(go_at_call 55;with_reducible refine (HA0.out _ (by (repeat (first|assumption|exact Below.refl _ _|refine keep_drew ?_|refine keep_alloc ?_ _|refine keep_trans ?_ (by assumption))))).mono ?_;rintro _ w3 ⟨rfl,hb5⟩)|(go_at_call 55;with_reducible refine (HAI.out _ (by (repeat (first|assumption|exact Below.refl _ _|refine keep_drew ?_|refine keep_alloc ?_ _|refine keep_trans ?_ (by assumption))))).mono ?_;rintro _ w4 ⟨rfl,hb6⟩)|fail)
 refine NoPanic.normal ?_
 go_wp2_with fail
 refine bodyPost_ret (v := .bool (X==Y)) ?_ rfl ⟨rfl,show Below w.heap.size w w3 by (repeat (first|assumption|exact Below.refl _ _|refine keep_drew ?_|refine keep_alloc ?_ _|refine keep_trans ?_ (by assumption)))⟩
 simp[results,Try.f59,go_sem]
theorem k4_c (N:Nat) (a:Option Addr) (m c:Nat) (cs:List Int) (w:World) (h:IC w a m cs) (L:Latin N cs) :
  Calls Try.prog 58 #[.agg #[.int .i64 (N:Int),.int .i64 (N:Int),.slice a m c]] w fun e w'=>e = .returned (.bool (kUni N cs))∧Below w.heap.size w w':=by
 have hN2:=L.le
 have hm:m=N*N:=by rw[← h.len];exact L.len
 have hNN:N*N≤16*16:=Nat.mul_le_mul hN2 hN2
 have hm256:m≤256:=by omega
 have HNN:=Lib.hid hm
 clear hm hNN
 go_enter Try.func58,Try.ntmps58
 go_upto_region 1 with fail
 have fB:Below w.heap.size w (w.alloc (.cells #[.int .i64 (N:Int),.int .i64 (N:Int),.slice a m c] 31)):=(Below.refl _ _).alloc (Nat.le_refl _) _
 have FQ:Hid ((w.alloc (.cells #[.int .i64 (N:Int),.int .i64 (N:Int),.slice a m c] 31)).heap[w.heap.size]?=some (.cells #[.int .i64 (N:Int),.int .i64 (N:Int),.slice a m c] 31 (0,0))):=World.alloc_heap_new _ _
 generalize (w.alloc (.cells #[.int .i64 (N:Int),.int .i64 (N:Int),.slice a m c] 31))=W0 at fB FQ ⊢
 obtain ⟨x0,x1,x2,xl⟩:=c3_of FQ.out
 have hEV:=every_c N (by omega) 59 #[] #[.pointer (some ⟨w.heap.size,0,none⟩)] (fun i=>cs[i*N+i]?.getD 0==cs[0]?.getD 0) (fun _ W=>Below W0.heap.size W0 W) W0 enterK41 (Below.refl _ _) (fun k hk W hb=>by
  refine (k41_c N k w.heap.size a m c cs W (h.mono (keep_trans fB hb)) L hk (keepq hb FQ.out)).mono ?_
  rintro e w' ⟨rfl,hb'⟩
  exact ⟨rfl,keep_trans hb hb'⟩)
 have HEV:=Lib.hid hEV
 clear hEV L h
 go_wp2_with (first|(go_at_call 53;refine HEV.out.mono ?_;rintro _ w6 ⟨rfl,k,hb6⟩)|fail)
 refine bodyPost_ret (v := .bool (kUni N cs)) ?_ rfl ⟨rfl,keep_trans fB hb6⟩
 simp[results,Try.f58,go_sem,kUni]
theorem k21_c (N i b:Nat) (a:Option Addr) (m c:Nat) (cs:List Int) (w:World) (h:IC w a m cs) (L:Latin N cs) (hi:i<m) (q:w.heap[b]?=some (.cells #[.int .i64 (N:Int),.int .i64 (N:Int),.slice a m c] 31 (0,0))) :
  Calls Try.prog 54 #[.int .i64 (i:Int),.pointer (some ⟨b,0,none⟩)] w fun e w'=>e = .returned (.bool (cs[i]?.getD 0==cs[i % N*N+i / N]?.getD 0))∧Below w.heap.size w w':=by
 have hN1:=L.pos
 have hN2:=L.le
 have hm:m=N*N:=by rw[← h.len];exact L.len
 have hNN:N*N≤16*16:=Nat.mul_le_mul hN2 hN2
 have hdv:i / N<N:=Nat.div_lt_of_lt_mul (by rw[← hm];exact hi)
 have hmd:i % N<N:=Nat.mod_lt _ (by omega)
 obtain ⟨x0,x1,x2,xl⟩:=c3_of q
 have HAT:Hid (∀W,Below w.heap.size w W→Calls Try.prog 55 #[.agg #[.int .i64 (N:Int),.int .i64 (N:Int),.slice a m c],.int .i64 ((i:Int) % (N:Int)),.int .i64 (wrap64 ((i:Int) / (N:Int)))] W fun e w'=>e = .returned (.int .i64 (cs[i % N*N+i / N]?.getD 0))∧Below W.heap.size W w'):=fun W hb=>by
  rw[← Int.natCast_emod,← Int.natCast_ediv,wrap_nat (i / N) (by omega)]
  exact lat_c (N:Int) N (i % N) (i / N) a m c cs W (h.mono hb) (by omega) (by omega) hdv (by rw[hm];exact gcell_lt hmd hdv)
 generalize cs[i % N*N+i / N]?.getD 0=Y at HAT ⊢
 obtain ⟨b1,off,rfl,hl,hc⟩:=h.2 i hi
 generalize cs[i]?.getD 0=X at hc ⊢
 have hne:(N:Int)≠0:=by omega
 have hm256:m≤256:=by omega
 have him:(i:Int)<(m:Int):=by omega
 clear h hm q L hNN hdv hmd
 go_enter Try.func54,Try.ntmps54
 go_upto_region 1 with fail
 refine wp_region_S (fun w'=>∃u,w'=over (w) u) [16] [(0,0),(0,1),(0,2),(0,3),(0,4),(0,5),(0,6),(0,7),(0,8),(0,9),(0,10),(0,11),(0,12),(0,13),(1,14),(0,15),(2,16)] (by kernel_rfl) (by kernel_rfl) (by exact ⟨_,below_over (by repeat (first|assumption|exact Below.refl _ _|refine keep_drew ?_|refine keep_alloc ?_ _|refine keep_trans ?_ (by assumption)))⟩) ?_
 dsimp only[pickOps,nthOp]
 repeat (first|(refine wpS_skip rfl (fun K hK=>?_);go_big_quiet_op;refine hK _ ?_;clear hK K)|(refine wpS_quiet rfl rfl (fun K hK=>?_);go_big_quiet_op;refine hK _ ?_;clear hK K)|(refine wpS_loud ?_;go_wp2_with (first|(go_at_call 55;refine (HAT.out _ (by (repeat (first|assumption|exact Below.refl _ _|refine keep_drew ?_|refine keep_alloc ?_ _|refine keep_trans ?_ (by assumption))))).mono ?_;rintro _ w3 ⟨rfl,hb5⟩)|fail);refine ⟨?_,?_⟩;focus (exact ⟨_,below_over (by repeat (first|assumption|exact Below.refl _ _|refine keep_drew ?_|refine keep_alloc ?_ _|refine keep_trans ?_ (by assumption)))⟩)))
 refine wpS_late _ _ _ rfl ?_
 dsimp only[List.map]
 go_wp2_with (first|(go_at_call 55;refine (HAT.out _ (by (repeat (first|assumption|exact Below.refl _ _|refine keep_drew ?_|refine keep_alloc ?_ _|refine keep_trans ?_ (by assumption))))).mono ?_;rintro _ w3 ⟨rfl,hb5⟩)|fail)
 refine NoPanic.normal ?_
 go_wp2_with fail
 refine bodyPost_ret (v := .bool (X==Y)) ?_ rfl ⟨rfl,show Below w.heap.size w w3 by (repeat (first|assumption|exact Below.refl _ _|refine keep_drew ?_|refine keep_alloc ?_ _|refine keep_trans ?_ (by assumption)))⟩
 simp[results,Try.f54,go_sem]
theorem k2_c (N:Nat) (a:Option Addr) (m c:Nat) (cs:List Int) (w:World) (h:IC w a m cs) (L:Latin N cs) :
  Calls Try.prog 52 #[.agg #[.int .i64 (N:Int),.int .i64 (N:Int),.slice a m c]] w fun e w'=>e = .returned (.bool (kSym N cs))∧Below w.heap.size w w':=by
 have hN2:=L.le
 have hm:m=N*N:=by rw[← h.len];exact L.len
 have hNN:N*N≤16*16:=Nat.mul_le_mul hN2 hN2
 have hm256:m≤256:=by omega
 have HNN:=Lib.hid hm
 clear hm hNN
 go_enter Try.func52,Try.ntmps52
 go_upto_region 1 with fail
 have fB:Below w.heap.size w (w.alloc (.cells #[.int .i64 (N:Int),.int .i64 (N:Int),.slice a m c] 31)):=(Below.refl _ _).alloc (Nat.le_refl _) _
 have FQ:Hid ((w.alloc (.cells #[.int .i64 (N:Int),.int .i64 (N:Int),.slice a m c] 31)).heap[w.heap.size]?=some (.cells #[.int .i64 (N:Int),.int .i64 (N:Int),.slice a m c] 31 (0,0))):=World.alloc_heap_new _ _
 generalize (w.alloc (.cells #[.int .i64 (N:Int),.int .i64 (N:Int),.slice a m c] 31))=W0 at fB FQ ⊢
 obtain ⟨x0,x1,x2,xl⟩:=c3_of FQ.out
 have hEV:=every_c m (by omega) 54 #[] #[.pointer (some ⟨w.heap.size,0,none⟩)] (fun i=>cs[i]?.getD 0==cs[i % N*N+i / N]?.getD 0) (fun _ W=>Below W0.heap.size W0 W) W0 enterK21 (Below.refl _ _) (fun k hk W hb=>by
  refine (k21_c N k w.heap.size a m c cs W (h.mono (keep_trans fB hb)) L hk (keepq hb FQ.out)).mono ?_
  rintro e w' ⟨rfl,hb'⟩
  exact ⟨rfl,keep_trans hb hb'⟩)
 have HEV:=Lib.hid hEV
 clear hEV L h
 go_wp2_with (first|(go_at_call 53;refine HEV.out.mono ?_;rintro _ w6 ⟨rfl,k,hb6⟩)|fail)
 refine bodyPost_ret (v := .bool (kSym N cs)) ?_ rfl ⟨rfl,keep_trans fB hb6⟩
 simp[results,Try.f52,go_sem,kSym,HNN.out]
end
section
open Go Go.RowKit
attribute [local go_sem] over_cell
attribute [local go_sem] Oper.semAt_some
theorem k51_c (i:Nat) (w:World) :
  Calls Try.prog 62 #[.int .i64 (i:Int)] w fun e w'=>e = .returned (.int .i64 (i:Int))∧Below w.heap.size w w':=by
 go_enter Try.func62,Try.ntmps62
 go_wp2_with fail
 refine bodyPost_ret (v := .int .i64 (i:Int)) ?_ rfl ⟨rfl,Below.refl _ _⟩
 simp[results,Try.f62,go_sem]
theorem k52_c (N i b:Nat) (v:Value) (w:World) (hN:N≤16) (hi:i<N) (q:w.heap[b]?=some (.cells #[.int .i64 (N:Int),.int .i64 (N:Int),v] 31 (0,0))) :
  Calls Try.prog 63 #[.int .i64 (i:Int),.pointer (some ⟨b,0,none⟩)] w fun e w'=>e = .returned (.int .i64 ((N:Int) - 1 - (i:Int)))∧Below w.heap.size w w':=by
 obtain ⟨x0,x1,x2,xl⟩:=c3_of q
 clear q
 go_enter Try.func63,Try.ntmps63
 go_wp2_with fail
 refine bodyPost_ret (v := .int .i64 ((N:Int) - 1 - (i:Int))) ?_ rfl ⟨rfl,Below.refl _ _⟩
 simp[results,Try.f63,go_sem]
theorem k611_c (i k b:Nat) (w:World) (hi:i≤16) (hk:k≤16) (q:w.heap[b]?=some (.cells #[.int .i64 (k:Int)] 3 (0,0))) :
  Calls Try.prog 66 #[.int .i64 (i:Int),.pointer (some ⟨b,0,none⟩)] w fun e w'=>e = .returned (.int .i64 ((i:Int)+(k:Int)))∧Below w.heap.size w w':=by
 obtain ⟨x0,x1,xl⟩:=c1_of q
 clear q
 go_enter Try.func66,Try.ntmps66
 go_wp2_with fail
 refine bodyPost_ret (v := .int .i64 ((i:Int)+(k:Int))) ?_ rfl ⟨rfl,Below.refl _ _⟩
 simp[results,Try.f66,go_sem]
theorem k612_c (i k b:Nat) (w:World) (hi:i≤16) (hk:k≤16) (q:w.heap[b]?=some (.cells #[.int .i64 (k:Int)] 3 (0,0))) :
  Calls Try.prog 67 #[.int .i64 (i:Int),.pointer (some ⟨b,0,none⟩)] w fun e w'=>e = .returned (.int .i64 ((k:Int) - (i:Int)))∧Below w.heap.size w w':=by
 obtain ⟨x0,x1,xl⟩:=c1_of q
 clear q
 go_enter Try.func67,Try.ntmps67
 go_wp2_with fail
 refine bodyPost_ret (v := .int .i64 ((k:Int) - (i:Int))) ?_ rfl ⟨rfl,Below.refl _ _⟩
 simp[results,Try.f67,go_sem]
theorem k5_c (N:Nat) (a:Option Addr) (m c:Nat) (cs:List Int) (w:World) (h:IC w a m cs) (L:Latin N cs) :
  Calls Try.prog 60 #[.agg #[.int .i64 (N:Int),.int .i64 (N:Int),.slice a m c]] w fun e w'=>e = .returned (.bool (kDia N cs))∧Below w.heap.size w w':=by
 have hN2:=L.le
 have HL:=Lib.hid L
 have HI:=Lib.hid h
 clear L h
 go_enter Try.func60,Try.ntmps60
 go_upto_region 1 with fail
 have fB:Below w.heap.size w (w.alloc (.cells #[.int .i64 (N:Int),.int .i64 (N:Int),.slice a m c] 31)):=(Below.refl _ _).alloc (Nat.le_refl _) _
 have FQ:Hid ((w.alloc (.cells #[.int .i64 (N:Int),.int .i64 (N:Int),.slice a m c] 31)).heap[w.heap.size]?=some (.cells #[.int .i64 (N:Int),.int .i64 (N:Int),.slice a m c] 31 (0,0))):=World.alloc_heap_new _ _
 generalize (w.alloc (.cells #[.int .i64 (N:Int),.int .i64 (N:Int),.slice a m c] 31))=W0 at fB FQ ⊢
 obtain ⟨x0,x1,x2,xl⟩:=c3_of FQ.out
 have HB:=Lib.hid fB
 have H1:Hid (∀W,Below W0.heap.size W0 W→Calls Try.prog 61 #[.agg #[.int .i64 (N:Int),.int .i64 (N:Int),.slice a m c],.func (.func 62) #[] #[]] W fun e w'=>e = .returned (.bool (onceB N cs (fun i=>(i:Int))))∧Below W.heap.size W w') :=
  fun W hb=>lonce_c N a m c cs 62 #[] #[] (fun i=>(i:Int)) W (HI.out.mono (keep_trans HB.out hb)) HL.out enterK51 (fun i _ W' _=>k51_c i W')
 have H2:Hid (∀W,Below W0.heap.size W0 W→Calls Try.prog 61 #[.agg #[.int .i64 (N:Int),.int .i64 (N:Int),.slice a m c],.func (.func 63) #[] #[.pointer (some ⟨w.heap.size,0,none⟩)]] W fun e w'=>e = .returned (.bool (onceB N cs (fun i=>(N:Int) - 1 - (i:Int))))∧Below W.heap.size W w') :=
  fun W hb=>lonce_c N a m c cs 63 #[] #[.pointer (some ⟨w.heap.size,0,none⟩)] (fun i=>(N:Int) - 1 - (i:Int)) W (HI.out.mono (keep_trans HB.out hb)) HL.out enterK52 (fun i hi W' hb'=>k52_c N i w.heap.size _ W' hN2 hi (keepq hb' (keepq hb FQ.out)))
 have HD:Hid (kDia N cs=(onceB N cs (fun i=>(i:Int))&&onceB N cs (fun i=>(N:Int) - 1 - (i:Int)))):=rfl
 generalize onceB N cs (fun i=>(i:Int))=b1 at H1 HD ⊢
 generalize onceB N cs (fun i=>(N:Int) - 1 - (i:Int))=b2 at H2 HD ⊢
 clear HB
 cases b1 with
 | true =>
  go_wp2_with (first|(go_at_call 61;with_reducible refine (H1.out _ (by (repeat (first|assumption|exact Below.refl _ _|refine keep_drew ?_|refine keep_alloc ?_ _|refine keep_trans ?_ (by assumption))))).mono ?_;rintro _ w1 ⟨rfl,hb1⟩;clear x0 x1 x2 xl;obtain ⟨x0,x1,x2,xl⟩:=c3_of (keepq hb1 FQ.out))|(go_at_call 61;with_reducible refine (H2.out _ (by (repeat (first|assumption|exact Below.refl _ _|refine keep_drew ?_|refine keep_alloc ?_ _|refine keep_trans ?_ (by assumption))))).mono ?_;rintro _ w2 ⟨rfl,hb2⟩)|fail)
  refine bodyPost_ret (v := .bool b2) ?_ rfl ⟨by rw[HD.out];rfl,keep_trans fB (show Below W0.heap.size W0 w2 by (repeat (first|assumption|exact Below.refl _ _|refine keep_drew ?_|refine keep_alloc ?_ _|refine keep_trans ?_ (by assumption))))⟩
  simp[results,Try.f60,go_sem]
 | false =>
  go_wp2_with (first|(go_at_call 61;with_reducible refine (H1.out _ (by (repeat (first|assumption|exact Below.refl _ _|refine keep_drew ?_|refine keep_alloc ?_ _|refine keep_trans ?_ (by assumption))))).mono ?_;rintro _ w1 ⟨rfl,hb1⟩)|fail)
  refine bodyPost_ret (v := .bool false) ?_ rfl ⟨by rw[HD.out];rfl,keep_trans fB hb1⟩
  simp[results,Try.f60,go_sem]
theorem k61_c (N k b:Nat) (a:Option Addr) (m c:Nat) (cs:List Int) (w:World) (h:IC w a m cs) (L:Latin N cs) (hk:k<N) (q:w.heap[b]?=some (.cells #[.int .i64 (N:Int),.int .i64 (N:Int),.slice a m c] 31 (0,0))) :
  Calls Try.prog 65 #[.int .i64 (k:Int),.pointer (some ⟨b,0,none⟩)] w fun e w'=>e = .returned (.bool (onceB N cs (fun i=>(i:Int)+(k:Int))&&onceB N cs (fun i=>(k:Int) - (i:Int))))∧Below w.heap.size w w':=by
 have hN2:=L.le
 have HL:=Lib.hid L
 have HI:=Lib.hid h
 have HQ:=Lib.hid q
 clear L h q
 obtain ⟨R,hR⟩:∃R,R=(onceB N cs (fun i=>(i:Int)+(k:Int))&&onceB N cs (fun i=>(k:Int) - (i:Int))):=⟨_,rfl⟩
 rw[← hR]
 have HD:=Lib.hid hR
 clear hR
 go_enter Try.func65,Try.ntmps65
 go_upto_region 1 with fail
 have fsz:(w.alloc (.cells #[.int .i64 (k:Int)] 3)).heap.size=w.heap.size+1:=by simp only[World.size_alloc]
 have fB:Below w.heap.size w (w.alloc (.cells #[.int .i64 (k:Int)] 3)):=(Below.refl _ _).alloc (Nat.le_refl _) _
 have fq0:(w.alloc (.cells #[.int .i64 (k:Int)] 3)).heap[w.heap.size]?=some (.cells #[.int .i64 (k:Int)] 3 (0,0)):=by have h:=World.alloc_heap_new w (.cells #[.int .i64 (k:Int)] 3);exact h
 generalize (w.alloc (.cells #[.int .i64 (k:Int)] 3))=W0 at fsz fB fq0 ⊢
 have HB:=Lib.hid fB
 have FQ:=Lib.hid fq0
 obtain ⟨y0,yf,yl⟩:=c1_of fq0
 obtain ⟨x0,x1,x2,xl⟩:=c3_of (keepq fB HQ.out)
 clear fq0 fsz
 have H1:Hid (∀W,Below W0.heap.size W0 W→Calls Try.prog 61 #[.agg #[.int .i64 (N:Int),.int .i64 (N:Int),.slice a m c],.func (.func 66) #[] #[.pointer (some ⟨w.heap.size,0,none⟩)]] W fun e w'=>e = .returned (.bool (onceB N cs (fun i=>(i:Int)+(k:Int))))∧Below W.heap.size W w') :=
  fun W hb=>lonce_c N a m c cs 66 #[] #[.pointer (some ⟨w.heap.size,0,none⟩)] (fun i=>(i:Int)+(k:Int)) W (HI.out.mono (keep_trans HB.out hb)) HL.out enterK611 (fun i hi W' hb'=>k611_c i k w.heap.size W' (by omega) (by omega) (keepq hb' (keepq hb FQ.out)))
 have H2:Hid (∀W,Below W0.heap.size W0 W→Calls Try.prog 61 #[.agg #[.int .i64 (N:Int),.int .i64 (N:Int),.slice a m c],.func (.func 67) #[] #[.pointer (some ⟨w.heap.size,0,none⟩)]] W fun e w'=>e = .returned (.bool (onceB N cs (fun i=>(k:Int) - (i:Int))))∧Below W.heap.size W w') :=
  fun W hb=>lonce_c N a m c cs 67 #[] #[.pointer (some ⟨w.heap.size,0,none⟩)] (fun i=>(k:Int) - (i:Int)) W (HI.out.mono (keep_trans HB.out hb)) HL.out enterK612 (fun i hi W' hb'=>k612_c i k w.heap.size W' (by omega) (by omega) (keepq hb' (keepq hb FQ.out)))
 generalize onceB N cs (fun i=>(i:Int)+(k:Int))=b1 at H1 HD
 generalize onceB N cs (fun i=>(k:Int) - (i:Int))=b2 at H2 HD
 have HQ2:=Lib.hid (keepq HB.out HQ.out)
 clear HB
 cases b1 with
 | true =>
  go_wp2_with (first|(go_at_call 61;with_reducible refine (H1.out _ (by (repeat (first|assumption|exact Below.refl _ _|refine keep_drew ?_|refine keep_alloc ?_ _|refine keep_trans ?_ (by assumption))))).mono ?_;rintro _ w1 ⟨rfl,hb1⟩;clear x0 x1 x2 xl;obtain ⟨x0,x1,x2,xl⟩:=c3_of (keepq hb1 HQ2.out))|(go_at_call 61;with_reducible refine (H2.out _ (by (repeat (first|assumption|exact Below.refl _ _|refine keep_drew ?_|refine keep_alloc ?_ _|refine keep_trans ?_ (by assumption))))).mono ?_;rintro _ w2 ⟨rfl,hb2⟩)|fail)
  refine bodyPost_ret (v := .bool b2) ?_ rfl ⟨by rw[HD.out];rfl,keep_trans fB (show Below W0.heap.size W0 w2 by (repeat (first|assumption|exact Below.refl _ _|refine keep_drew ?_|refine keep_alloc ?_ _|refine keep_trans ?_ (by assumption))))⟩
  simp[results,Try.f65,go_sem]
 | false =>
  go_wp2_with (first|(go_at_call 61;with_reducible refine (H1.out _ (by (repeat (first|assumption|exact Below.refl _ _|refine keep_drew ?_|refine keep_alloc ?_ _|refine keep_trans ?_ (by assumption))))).mono ?_;rintro _ w1 ⟨rfl,hb1⟩)|fail)
  refine bodyPost_ret (v := .bool false) ?_ rfl ⟨by rw[HD.out];rfl,keep_trans fB hb1⟩
  simp[results,Try.f65,go_sem]
theorem k6_c (N:Nat) (a:Option Addr) (m c:Nat) (cs:List Int) (w:World) (h:IC w a m cs) (L:Latin N cs) :
  Calls Try.prog 64 #[.agg #[.int .i64 (N:Int),.int .i64 (N:Int),.slice a m c]] w fun e w'=>e = .returned (.bool (kPan N cs))∧Below w.heap.size w w':=by
 have hN2:=L.le
 go_enter Try.func64,Try.ntmps64
 go_upto_region 1 with fail
 have fB:Below w.heap.size w (w.alloc (.cells #[.int .i64 (N:Int),.int .i64 (N:Int),.slice a m c] 31)):=(Below.refl _ _).alloc (Nat.le_refl _) _
 have FQ:Hid ((w.alloc (.cells #[.int .i64 (N:Int),.int .i64 (N:Int),.slice a m c] 31)).heap[w.heap.size]?=some (.cells #[.int .i64 (N:Int),.int .i64 (N:Int),.slice a m c] 31 (0,0))):=World.alloc_heap_new _ _
 generalize (w.alloc (.cells #[.int .i64 (N:Int),.int .i64 (N:Int),.slice a m c] 31))=W0 at fB FQ ⊢
 obtain ⟨x0,x1,x2,xl⟩:=c3_of FQ.out
 have hEV:=every_c N (by omega) 65 #[] #[.pointer (some ⟨w.heap.size,0,none⟩)] (fun k=>onceB N cs (fun i=>(i:Int)+(k:Int))&&onceB N cs (fun i=>(k:Int) - (i:Int))) (fun _ W=>Below W0.heap.size W0 W) W0 enterK61 (Below.refl _ _) (fun k hk W hb=>by
  refine (k61_c N k w.heap.size a m c cs W (h.mono (keep_trans fB hb)) L hk (keepq hb FQ.out)).mono ?_
  rintro e w' ⟨rfl,hb'⟩
  exact ⟨rfl,keep_trans hb hb'⟩)
 have HEV:=Lib.hid hEV
 clear hEV L h
 go_wp2_with (first|(go_at_call 53;refine HEV.out.mono ?_;rintro _ w6 ⟨rfl,k,hb6⟩)|fail)
 refine bodyPost_ret (v := .bool (kPan N cs)) ?_ rfl ⟨rfl,keep_trans fB hb6⟩
 simp[results,Try.f64,go_sem,kPan]
end
section
open Go Go.RowKit
attribute [local go_sem] over_cell
attribute [local go_sem] Oper.semAt_some
theorem k1_c (N:Nat) (a:Option Addr) (m c:Nat) (cs:List Int) (w:World) (h:IC w a m cs) (hcap:m≤c) (L:Latin N cs) :
  Calls Try.prog 49 #[.agg #[.int .i64 (N:Int),.int .i64 (N:Int),.slice a m c]] w fun e w'=>e = .returned (.bool (kRed N cs))∧Below w.heap.size w w':=by
 have HM:=Lib.hid (fun W (hb:Below w.heap.size w W)=>reduced_c N a m c cs W (h.mono hb) hcap L)
 have HI:=Lib.hid h
 have hrl:(reduL (-1) N cs).length≤17592186044416:=by rw[(redu_latin (x := -1) L).len];have:=L.le;have:=Nat.mul_le_mul this this;omega
 have HD:Hid (kRed N cs=sameB cs (reduL (-1) N cs)):=rfl
 generalize reduL (-1) N cs=rs at HM HD hrl
 clear h L
 go_enter Try.func49,Try.ntmps49
 go_upto_region 1 with fail
 have fB:Below w.heap.size w (w.alloc (.cells #[.int .i64 (N:Int),.int .i64 (N:Int),.slice a m c] 31)):=(Below.refl _ _).alloc (Nat.le_refl _) _
 have FQ:Hid ((w.alloc (.cells #[.int .i64 (N:Int),.int .i64 (N:Int),.slice a m c] 31)).heap[w.heap.size]?=some (.cells #[.int .i64 (N:Int),.int .i64 (N:Int),.slice a m c] 31 (0,0))):=World.alloc_heap_new _ _
 generalize (w.alloc (.cells #[.int .i64 (N:Int),.int .i64 (N:Int),.slice a m c] 31))=W0 at fB FQ ⊢
 obtain ⟨x0,x1,x2,xl⟩:=c3_of FQ.out
 refine wp_region_S (fun w'=>∃u,w'=over (W0) u) [6,5] [(0,0),(0,1),(0,2),(1,3),(0,4),(2,5),(2,6)] (by kernel_rfl) (by kernel_rfl) (by exact ⟨_,below_over (by repeat (first|assumption|exact Below.refl _ _|refine keep_drew ?_|refine keep_alloc ?_ _|refine keep_trans ?_ (by assumption)))⟩) ?_
 dsimp only[pickOps,nthOp]
 repeat (first|(refine wpS_skip rfl (fun K hK=>?_);go_big_quiet_op;refine hK _ ?_;clear hK K)|(refine wpS_quiet rfl rfl (fun K hK=>?_);go_big_quiet_op;refine hK _ ?_;clear hK K)|(refine wpS_quiet rfl rfl (fun K hK=>?_);refine ⟨_,fun w' _=>And.intro rfl rfl,?_⟩;refine hK _ ?_;clear hK K)|(refine wpS_loud ?_;go_wp2_with (first|(go_at_call 51;refine (HM.out _ (keep_trans fB (by (repeat (first|assumption|exact Below.refl _ _|refine keep_drew ?_|refine keep_alloc ?_ _|refine keep_trans ?_ (by assumption)))))).mono ?_;rintro _ w1 ⟨a2,c2,rfl,hown2,hb2⟩;have HI2:=Lib.hid (IC.of_owns hown2 hrl).1;have HB2:Hid (Below W0.heap.size W0 w1):=by (unfold Hid;(repeat (first|assumption|exact Below.refl _ _|refine keep_drew ?_|refine keep_alloc ?_ _|refine keep_trans ?_ (by assumption)))))|(go_at_call 50;refine (equal_c a a2 m rs.length c c2 cs rs _ (HI.out.mono (keep_trans fB HB2.out)) HI2.out).mono ?_;rintro _ w2 ⟨rfl,hb3⟩)|fail );refine ⟨?_,?_⟩;focus (exact ⟨_,below_over (by repeat (first|assumption|exact Below.refl _ _|refine keep_drew ?_|refine keep_alloc ?_ _|refine keep_trans ?_ (by assumption)))⟩)))
 refine wpS_late _ _ _ rfl ?_
 dsimp only[List.map]
 go_wp2_with (first|(go_at_call 51;refine (HM.out _ (keep_trans fB (by (repeat (first|assumption|exact Below.refl _ _|refine keep_drew ?_|refine keep_alloc ?_ _|refine keep_trans ?_ (by assumption)))))).mono ?_;rintro _ w1 ⟨a2,c2,rfl,hown2,hb2⟩;have HI2:=Lib.hid (IC.of_owns hown2 hrl).1;have HB2:Hid (Below W0.heap.size W0 w1):=by (unfold Hid;(repeat (first|assumption|exact Below.refl _ _|refine keep_drew ?_|refine keep_alloc ?_ _|refine keep_trans ?_ (by assumption)))))|(go_at_call 50;refine (equal_c a a2 m rs.length c c2 cs rs _ (HI.out.mono (keep_trans fB HB2.out)) HI2.out).mono ?_;rintro _ w2 ⟨rfl,hb3⟩)|fail )
 refine NoPanic.normal ?_
 go_wp2_with fail
 refine bodyPost_ret (v := .bool (sameB cs rs)) ?_ rfl ⟨by rw[HD.out],keep_trans fB (keep_trans HB2.out hb3)⟩
 simp[results,Try.f49,go_sem]
theorem symM_lt {N:Nat} {rs:List Int} (L:Latin N rs) {x y:Nat} (hx:x<N) (hy:y<N):rs[x*N+y]?.getD 0=(symM N rs x y:Int)∧symM N rs x y<N:=by
 have hlt:x*N+y<rs.length:=by rw[L.len];exact gcell_lt hx hy
 have:=L.num _ (List.getElem_mem hlt)
 unfold symM
 rw[List.getElem?_eq_getElem hlt,Option.getD_some]
 omega
theorem kg1_c (N k bg bn:Nat) (a:Option Addr) (m c:Nat) (rs:List Int) (w:World) (h:IC w a m rs) (L:Latin N rs) (hk:k<N*N*N)
  (q:w.heap[bg]?=some (.cells #[.int .i64 (N:Int),.int .i64 (N:Int),.slice a m c] 31 (0,0))) (qn:w.heap[bn]?=some (.cells #[.int .i64 (N:Int)] 3 (0,0))) :
  Calls Try.prog 83 #[.int .i64 (k:Int),.pointer (some ⟨bn,0,none⟩),.pointer (some ⟨bg,0,none⟩)] w fun e w'=>e = .returned (.bool (symM N rs (symM N rs (k / N / N) (k / N % N)) (k % N)==symM N rs (k / N / N) (symM N rs (k / N % N) (k % N))))∧Below w.heap.size w w':=by
 have hN1:=L.pos
 have hN2:=L.le
 have hm:m=N*N:=by rw[← h.len];exact L.len
 have hNN:N*N≤16*16:=Nat.mul_le_mul hN2 hN2
 have hNNN:N*N*N≤16*16*16:=Nat.mul_le_mul hNN hN2
 have hk4:k<4096:=by omega
 have hd2:k / N / N<N:=Nat.div_lt_of_lt_mul (Nat.div_lt_of_lt_mul (by rw[Nat.mul_comm N (N*N)] at *;exact hk))
 have hyl:k / N % N<N:=Nat.mod_lt _ (by omega)
 have hzl:k % N<N:=Nat.mod_lt _ (by omega)
 have hd1:k / N≤k:=Nat.div_le_self _ _
 obtain ⟨x0,x1,x2,xl⟩:=c3_of q
 obtain ⟨y0,yf,yl⟩:=c1_of qn
 have HAT:∀(i j:Nat) W,Below w.heap.size w W→i<N→j<N→Calls Try.prog 55 #[.agg #[.int .i64 (N:Int),.int .i64 (N:Int),.slice a m c],.int .i64 (i:Int),.int .i64 (j:Int)] W fun e w'=>e = .returned (.int .i64 (symM N rs i j:Int))∧Below W.heap.size W w':=fun i j W hb hi hj=>by
  rw[← (symM_lt L hi hj).1]
  exact lat_c (N:Int) N i j a m c rs W (h.mono hb) (by omega) (by omega) hj (by rw[hm];exact gcell_lt hi hj)
 have e1:(k:Int) / (N:Int)=((k / N:Nat):Int):=(Int.natCast_ediv _ _).symm
 have e2:((k / N:Nat):Int) / (N:Int)=((k / N / N:Nat):Int):=(Int.natCast_ediv _ _).symm
 have e3:((k / N:Nat):Int) % (N:Int)=((k / N % N:Nat):Int):=(Int.natCast_emod _ _).symm
 have e4:(k:Int) % (N:Int)=((k % N:Nat):Int):=(Int.natCast_emod _ _).symm
 have hne:(N:Int)≠0:=by omega
 generalize k / N / N=x at e2 hd2 ⊢
 generalize k / N % N=y at e3 hyl ⊢
 generalize k % N=z at e4 hzl ⊢
 generalize k / N=d at e1 e2 e3 hd1
 have H1:=Lib.hid (fun W hb=>HAT x y W hb hd2 hyl)
 have H2:=Lib.hid (fun W hb=>HAT y z W hb hyl hzl)
 have hP:=(symM_lt L hd2 hyl).2
 have hQ:=(symM_lt L hyl hzl).2
 generalize symM N rs x y=P at H1 hP ⊢
 generalize symM N rs y z=Q at H2 hQ ⊢
 have H3:=Lib.hid (fun W hb=>HAT P z W hb hP hzl)
 have H4:=Lib.hid (fun W hb=>HAT x Q W hb hd2 hQ)
 generalize symM N rs P z=S1 at H3 ⊢
 generalize symM N rs x Q=S2 at H4 ⊢
 have HR:Hid ((S1==S2)=((S1:Int)==(S2:Int))):=by
  unfold Hid
  rw[Bool.eq_iff_iff,beq_iff_eq,beq_iff_eq];exact Int.ofNat_inj.symm
 clear h hm q qn L hNN hNNN HAT hk
 go_enter Try.func83,Try.ntmps83
 go_upto_region 1 with fail
 refine wp_region_S (fun w'=>∃u,w'=over (w) u) [15] [(0,0),(0,1),(0,2),(0,3),(0,4),(0,5),(0,6),(0,7),(0,8),(0,9),(0,10),(0,11),(0,12),(1,13),(1,14),(2,15)] (by kernel_rfl) (by kernel_rfl) (by exact ⟨_,below_over (by repeat (first|assumption|exact Below.refl _ _|refine keep_drew ?_|refine keep_alloc ?_ _|refine keep_trans ?_ (by assumption)))⟩) ?_
 dsimp only[pickOps,nthOp]
 repeat (first|(refine wpS_skip rfl (fun K hK=>?_);go_big_quiet_op;refine hK _ ?_;clear hK K)|(refine wpS_quiet rfl rfl (fun K hK=>?_);go_big_quiet_op;refine hK _ ?_;clear hK K)|(refine wpS_loud ?_;go_wp2;refine ⟨?_,?_⟩;focus (exact ⟨_,below_over (by repeat (first|assumption|exact Below.refl _ _|refine keep_drew ?_|refine keep_alloc ?_ _|refine keep_trans ?_ (by assumption)))⟩)))
 refine wpS_late _ _ _ rfl ?_
 dsimp only[List.map]
 go_wp2
 refine NoPanic.normal ?_
 go_upto_region 2 with fail
 refine wp_region_S (fun w'=>∃u,w'=over (w) u) [15] [(0,0),(0,1),(0,2),(0,3),(0,5),(0,7),(0,8),(0,9),(0,10),(0,11),(1,4),(1,6),(1,12),(1,13),(0,14),(2,15)] (by kernel_rfl) (by kernel_rfl) (by exact ⟨_,below_over (by repeat (first|assumption|exact Below.refl _ _|refine keep_drew ?_|refine keep_alloc ?_ _|refine keep_trans ?_ (by assumption)))⟩) ?_
 dsimp only[pickOps,nthOp]
 repeat (first|(refine wpS_skip rfl (fun K hK=>?_);go_big_quiet_op;refine hK _ ?_;clear hK K)|(refine wpS_quiet rfl rfl (fun K hK=>?_);go_big_quiet_op;refine hK _ ?_;clear hK K)|(refine wpS_loud ?_;go_wp2_with (first|(go_at_call 55;with_reducible refine (H1.out _ (by (repeat (first|assumption|exact Below.refl _ _|refine keep_drew ?_|refine keep_alloc ?_ _|refine keep_trans ?_ (by assumption))))).mono ?_;rintro _ w1 ⟨rfl,hb1⟩)|(go_at_call 55;with_reducible refine (H2.out _ (by (repeat (first|assumption|exact Below.refl _ _|refine keep_drew ?_|refine keep_alloc ?_ _|refine keep_trans ?_ (by assumption))))).mono ?_;rintro _ w2 ⟨rfl,hb2⟩)|(go_at_call 55;with_reducible refine (H3.out _ (by (repeat (first|assumption|exact Below.refl _ _|refine keep_drew ?_|refine keep_alloc ?_ _|refine keep_trans ?_ (by assumption))))).mono ?_;rintro _ w3 ⟨rfl,hb3⟩)|(go_at_call 55;with_reducible refine (H4.out _ (by (repeat (first|assumption|exact Below.refl _ _|refine keep_drew ?_|refine keep_alloc ?_ _|refine keep_trans ?_ (by assumption))))).mono ?_;rintro _ w4 ⟨rfl,hb4⟩)|fail);refine ⟨?_,?_⟩;focus (exact ⟨_,below_over (by repeat (first|assumption|exact Below.refl _ _|refine keep_drew ?_|refine keep_alloc ?_ _|refine keep_trans ?_ (by assumption)))⟩)))
 refine wpS_late _ _ _ rfl ?_
 dsimp only[List.map]
 go_wp2_with (first|(go_at_call 55;with_reducible refine (H1.out _ (by (repeat (first|assumption|exact Below.refl _ _|refine keep_drew ?_|refine keep_alloc ?_ _|refine keep_trans ?_ (by assumption))))).mono ?_;rintro _ w1 ⟨rfl,hb1⟩)|(go_at_call 55;with_reducible refine (H2.out _ (by (repeat (first|assumption|exact Below.refl _ _|refine keep_drew ?_|refine keep_alloc ?_ _|refine keep_trans ?_ (by assumption))))).mono ?_;rintro _ w2 ⟨rfl,hb2⟩)|(go_at_call 55;with_reducible refine (H3.out _ (by (repeat (first|assumption|exact Below.refl _ _|refine keep_drew ?_|refine keep_alloc ?_ _|refine keep_trans ?_ (by assumption))))).mono ?_;rintro _ w3 ⟨rfl,hb3⟩)|(go_at_call 55;with_reducible refine (H4.out _ (by (repeat (first|assumption|exact Below.refl _ _|refine keep_drew ?_|refine keep_alloc ?_ _|refine keep_trans ?_ (by assumption))))).mono ?_;rintro _ w4 ⟨rfl,hb4⟩)|fail)
 refine NoPanic.normal ?_
 go_wp2_with fail
 refine bodyPost_ret (v := .bool ((S1:Int)==(S2:Int))) ?_ rfl ⟨by rw[HR.out],show Below w.heap.size w w4 by (repeat (first|assumption|exact Below.refl _ _|refine keep_drew ?_|refine keep_alloc ?_ _|refine keep_trans ?_ (by assumption)))⟩
 simp[results,Try.f83,go_sem]
end
end Go.Proofs.Ytpkghjoippcjeaa
