/- Texts R1 to S0 of this proof, in one file. -/
import Derived.Test.YtcblpobiefmjmaaGreatW06
import Derived.Test.YtcblpobiefmjmaaGreatW07
import Derived.Test.YtcblpobiefmjmaaGreatW12
import Derived.Deep.CutBlock
import Derived.Deep.CutRange
namespace Go.Proofs.YtcblpobiefmjmaaGreat
set_option maxRecDepth 100000
set_option maxHeartbeats 16000000
section
open Go Go.RowKit
attribute [local go_sem] over_cell
attribute [local go_sem] Oper.semAt_some
theorem rsumof_c (a a':Option Addr) (n n' c c':Nat) (l f:List Int) (w:World) (h:IC w a n l) (h':IC w a' n' f) (hn:n≤1000)
  (hl:∀k,k<n→0≤l[k]?.getD 0∧l[k]?.getD 0<(n':Int)) (hf:∀c:Nat,0≤f[c]?.getD 0∧f[c]?.getD 0≤1000000000) :
  Calls Tryz.prog 84 #[.slice a n c,.slice a' n' c'] w fun e w'=>e = .returned (.int .i64 (sumAt l f))∧w=w':=by
 have HF:=Lib.hid hf
 have HL:=Lib.hid hl
 clear hf hl
 have hm':=h'.small
 go_enter Tryz.func84,Tryz.ntmps84
 go_wp2
 go_loop [5,6] (fun s i=>∃k:Nat,k≤n∧i = .int .i64 k∧s = .int .i64 (sumTo l f k)) (fun _ i=>n - (intOf i).toNat)
 case atStart=>exact ⟨0,by omega,rfl,rfl⟩
 case round =>
  obtain ⟨k,hk,rfl,rfl⟩:=hrel
  have hb:=sumTo_bd HF.out k (by rw[h.len];exact hk)
  have hb2:sumTo l f k≤1000000000000:=by
   have:(k:Int)*1000000000≤1000*1000000000:=Int.mul_le_mul_of_nonneg_right (by omega) (by omega)
   omega
  have hb1:=hb.1
  clear hb
  by_cases hlt:k<n
  ·obtain ⟨b,off,rfl,hbb,hc⟩:=h.2 k hlt
   have hr:=HL.out k hlt
   obtain ⟨x,hx⟩:∃x:Nat,l[k]?.getD 0=(x:Int):=⟨(l[k]?.getD 0).toNat,by omega⟩
   rw[hx] at hr hc
   have hS:=Lib.hid (sumTo_succ (f:=f) (show k<l.length by rw[h.len];exact hlt))
   rw[hx] at hS
   clear hx
   obtain ⟨b',off',rfl,hbb',hc'⟩:=h'.2 x (by omega)
   have hfx:=HF.out x
   have hr2:=hr.2
   have hr3:x<n':=by omega
   have hfx1:=hfx.1
   have hfx2:=hfx.2
   clear hr hfx
   go_wp2
   go_round
   case rel=>exact ⟨k+1,by omega,by go_num,by rw[hS.out];simp⟩
   case measure=>simp[intOf];omega
  ·go_wp2
   go_ret
   have e:k=n:=by omega
   subst e
   refine ⟨ret_int ?_,rfl⟩
   unfold sumTo
   rw[List.take_of_length_le (by rw[h.len];omega)]
end
section
open Go Go.RowKit
attribute [local go_sem] over_cell
attribute [local go_sem] Oper.semAt_some
end
section
open Go Go.RowKit
end
end Go.Proofs.YtcblpobiefmjmaaGreat
