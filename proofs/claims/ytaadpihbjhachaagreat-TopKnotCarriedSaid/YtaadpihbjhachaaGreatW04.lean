/- Texts C10 to C12 of this proof, in one file. -/
import Derived.Test.YtaadpihbjhachaaGreatW03
namespace Go.Proofs.YtaadpihbjhachaaGreat
set_option maxRecDepth 100000
set_option maxHeartbeats 16000000
section
open Go Go.RowKit
attribute [local go_sem] over_cell
theorem sys_first (cells:Int) (n:Nat):firstL [whenV (anyP (fun k=>outB 1 256 ([cells][k]?.getD 0)) 1) 3,whenV (decide (128<(n:Int))) 5]=(if cells<1∨cells>256 then 3 else if n>128 then 5 else 0):=by
 have e:anyP (fun k=>outB 1 256 ([cells][k]?.getD 0)) 1=outB 1 256 cells:=by simp[anyP,List.range_succ]
 rw[e]
 by_cases h1:cells<1∨cells>256
 ·rw[if_pos h1]
  have:outB 1 256 cells=true:=by
   rcases h1 with h|h
   ·simp[outB,h]
   ·have h':256<cells:=h
    simp[outB,h']
  simp[this,whenV,firstL]
 ·rw[if_neg h1]
  have:outB 1 256 cells=false:=by
   have a:¬cells<1:=fun h=>h1 (.inl h)
   have b:¬256<cells:=fun h=>h1 (.inr h)
   simp[outB,a,b]
  by_cases h2:n>128
  ·have h2':(128:Int)<n:=by omega
   simp[this,whenV,firstL,h2,h2']
  ·have h2':¬(128:Int)<n:=by omega
   simp[this,whenV,firstL,h2,h2']
theorem sys_c (a:Option Addr) (n c:Nat) (ls:List (List Int)) (cells:Int) (w:World) (h:RC w a n ls) (hcap:n≤c) :
  Calls Tryz.prog 94 #[.agg #[.int .i64 cells,.slice a n c]] w fun e w'=>e = .returned (.int .i64 (sysErr cells ls))∧Below w.heap.size w w':=by
 have hm:=h.small
 have hF:Hid (sysErr cells ls=if firstL [whenV (anyP (fun k=>outB 1 256 ([cells][k]?.getD 0)) 1) 3,whenV (decide (128<(n:Int))) 5]≠0 then firstL [whenV (anyP (fun k=>outB 1 256 ([cells][k]?.getD 0)) 1) 3,whenV (decide (128<(n:Int))) 5] else errs (lineErr cells ls) n):=by
  unfold Hid
  rw[sys_first,sysErr,h.len]
  by_cases h1:cells<1∨cells>256
  ·simp[h1]
  ·by_cases h2:n>128
   ·simp[h1,h2]
   ·simp[h1,h2]
 go_enter Tryz.func94,Tryz.ntmps94
 go_wp2
 have hsz:w.heap.size<(w.alloc (.cells #[.int .i64 cells,.slice a n c] 24)).heap.size:=by simp
 have hB:Below w.heap.size w (w.alloc (.cells #[.int .i64 cells,.slice a n c] 24)):=(Below.refl _ _).alloc (Nat.le_refl _) _
 have x0:(w.alloc (.cells #[.int .i64 cells,.slice a n c] 24)).cell? ⟨w.heap.size,0,none⟩=some (.int .i64 cells):=(box_cells w #[.int .i64 cells,.slice a n c] 24 0).trans rfl
 have x1:(w.alloc (.cells #[.int .i64 cells,.slice a n c] 24)).cell? ⟨w.heap.size,1,none⟩=some (.slice a n c):=(box_cells w #[.int .i64 cells,.slice a n c] 24 1).trans rfl
 generalize (w.alloc (.cells #[.int .i64 cells,.slice a n c] 24))=W0 at hsz hB x0 x1 ⊢
 have h0:=h.mono hB
 refine wp_region_S (fun w'=>∃u,w'=over (W0) u) [11,10,9,8] [(0,0),(0,1),(0,4),(0,5),(0,6),(0,7),(1,2),(1,3),(2,8),(2,9),(2,10),(2,11)] (by kernel_rfl) (by kernel_rfl) (by exact ⟨_,below_over (by repeat (first|assumption|exact Below.refl _ _|refine keep_drew ?_|refine keep_alloc ?_ _|refine keep_trans ?_ (by assumption)))⟩) ?_
 dsimp only[pickOps,nthOp]
 repeat (first|(refine wpS_skip rfl (fun K hK=>?_);go_big_quiet_op;refine hK _ ?_;clear hK K)|(refine wpS_quiet rfl rfl (fun K hK=>?_);go_big_quiet_op;refine hK _ ?_;clear hK K)|(refine wpS_loud ?_;go_wp2_with (first|(go_at_call 164;refine (from_c _ _ _ [cells] _ _ _ ((IC.new1 _ _ _).mono (keep_drew (Below.refl _ _)))).mono ?_;rintro e w1 ⟨rfl,hb1⟩)|(go_at_call 165;refine (lwhen_c _ _ _).mono ?_;rintro e w2 ⟨rfl,rfl⟩)|(go_at_call 163;refine (lfirst_c _ _ _ _ _ (IC.new2 _ _ _ _)).mono ?_;rintro e w2 ⟨rfl,rfl⟩));refine ⟨?_,?_⟩;focus (exact ⟨_,below_over (by repeat (first|assumption|exact Below.refl _ _|refine keep_drew ?_|refine keep_alloc ?_ _|refine keep_trans ?_ (by assumption)))⟩)))
 refine wpS_late _ _ _ rfl ?_
 dsimp only[List.map]
 go_wp2_with (first|(go_at_call 164;refine (from_c _ _ _ [cells] _ _ _ ((IC.new1 _ _ _).mono (keep_drew (Below.refl _ _)))).mono ?_;rintro e w1 ⟨rfl,hb1⟩)|(go_at_call 165;refine (lwhen_c _ _ _).mono ?_;rintro e w2 ⟨rfl,rfl⟩)|(go_at_call 163;refine (lfirst_c _ _ _ _ _ (IC.new2 _ _ _ _)).mono ?_;rintro e w2 ⟨rfl,rfl⟩))
 refine NoPanic.normal ?_
 have hb2:Below W0.heap.size W0 (w1.alloc (.cells #[.int .i64 (whenV (anyP (fun k=>outB 1 256 ([cells][k]?.getD 0)) 1) 3),.int .i64 (whenV (decide (128<(n:Int))) 5)] 34)):=keep_alloc (keep_trans (keep_drew (keep_alloc (Below.refl _ _) _)) hb1) _
 generalize (w1.alloc (.cells #[.int .i64 (whenV (anyP (fun k=>outB 1 256 ([cells][k]?.getD 0)) 1) 3),.int .i64 (whenV (decide (128<(n:Int))) 5)] 34))=w3 at hb2 ⊢
 clear hb1
 generalize firstL [whenV (anyP (fun k=>outB 1 256 ([cells][k]?.getD 0)) 1) 3,whenV (decide (128<(n:Int))) 5]=v at hF ⊢
 have hB3:Below w.heap.size w w3:=hB.trans (hb2.mono (by omega))
 have h3:=h0.mono hb2
 have hsz3:w.heap.size<w3.heap.size:=by have:=hb2.size;omega
 have y0:=((bcell hb2).1 _ _ hsz).trans x0
 have y1:=((bcell hb2).1 _ _ hsz).trans x1
 clear x0 x1
 by_cases hv:v=0
 case neg =>
  have hv':(v != 0)=true:=by simpa using hv
  have hV:=Lib.hid hv
  clear hv
  go_wp2
  go_ret
  exact ⟨ret_int (by rw[hF.out,if_pos hV.out]),hB3⟩
 have hv':(v != 0)=false:=by simpa using hv
 have hV:=Lib.hid hv
 clear hv
 go_wp2
 have Y0:=Lib.hid y0
 have Y1:=Lib.hid y1
 clear y0 y1
 go_loopw [4,5,23] (fun _ _ i wr=>∃k:Nat,k≤n∧i = .int .i64 k∧Hid (∀j,j<k→lineErr cells ls j=0)∧Below w3.heap.size w3 wr) (fun _ _ i _=>n - (intOf i).toNat)
 case atStart=>exact ⟨0,by omega,rfl,fun j hj=>absurd hj (by omega),Below.refl _ _⟩
 case round =>
  obtain ⟨k,hk,rfl,hn,hbr⟩:=hrel
  have z0:=((bcell hbr).1 _ _ hsz3).trans Y0.out
  have z1:=((bcell hbr).1 _ _ hsz3).trans Y1.out
  by_cases hlt:k<n
  ·have HI:=Lib.hid (checkLine_c a n c ls cells k wr (h3.mono hbr) hcap hlt)
   go_wp2_with (go_at_call 166;refine HI.out.mono ?_;rintro e w4 ⟨rfl,hb4⟩)
   ·have he:(lineErr cells ls k != 0)=true:=by assumption
    go_ret
    have h1:=errs_found hn.out hlt (by simpa using he)
    exact ⟨ret_int (by rw[hF.out,if_neg (by rw[hV.out];simp),h1]),(hB3.trans (hbr.mono (by omega))).trans (hb4.mono (by have:=hbr.size;omega))⟩
   ·have he:(lineErr cells ls k != 0)=false:=by assumption
    go_roundw
    case rel=>exact ⟨k+1,by omega,by go_num,upto_snoc hn.out (by simpa using he),hbr.trans (hb4.mono hbr.size)⟩
    case measure=>simp[intOf];omega
  ·have e:k=n:=by omega
   subst e
   go_wp2
   go_ret
   exact ⟨ret_int (by rw[hF.out,if_neg (by rw[hV.out];simp),errs_none hn.out]),hB3.trans (hbr.mono (by omega))⟩
theorem task_first (e:Int) (sum cells:Int) (n:Nat) (ls:List (List Int)) (g:List Int) (hl:g.length=n) (he:e=sysErr cells ls) :
  taskErr cells ls sum g=if firstL [e,whenV (decide (sum<1)||decide (999999999<sum)) 3,whenV ((n:Int) != cells) 2]≠0 then firstL [e,whenV (decide (sum<1)||decide (999999999<sum)) 3,whenV ((n:Int) != cells) 2] else errs (givenBad cells g) n:=by
 subst he
 unfold taskErr
 by_cases h1:sysErr cells ls=0
 ·rw[if_neg (by simp[h1])]
  by_cases h2:sum<1∨sum>999999999
  ·rw[if_pos h2]
   have:(decide (sum<1)||decide (999999999<sum))=true:=by
    rcases h2 with h|h
    ·simp[h]
    ·have h':999999999<sum:=h
     simp[h']
   simp[h1,this,whenV,firstL]
  ·rw[if_neg h2]
   have a:¬sum<1:=fun h=>h2 (.inl h)
   have b:¬999999999<sum:=fun h=>h2 (.inr h)
   by_cases h3:(n:Int)=cells
   ·rw[if_neg (by rw[hl];simpa using h3),hl]
    simp[h1,a,b,h3,whenV,firstL]
   ·rw[if_pos (by rw[hl];exact h3)]
    simp[h1,a,b,h3,whenV,firstL]
 ·rw[if_pos h1]
  simp[firstL,h1]
theorem given_first (cells:Int) (g:List Int) (k:Nat):givenBad cells g k=firstL [whenV (decide (g[k]?.getD 0<0)||decide (cells<g[k]?.getD 0)) 3,whenV (decide (0<g[k]?.getD 0)&&hasB (g.take k) (g[k]?.getD 0)) 9]:=by
 unfold givenBad
 by_cases h1:g[k]?.getD 0<0
 ·rw[if_pos (.inl h1)];simp[h1,whenV,firstL]
 by_cases h2:cells<g[k]?.getD 0
 ·rw[if_pos (.inr h2)];simp[h2,whenV,firstL]
 rw[if_neg (by omega)]
 by_cases h3:0<g[k]?.getD 0
 ·by_cases h4:hasB (g.take k) (g[k]?.getD 0)=true
  ·simp[h1,h2,h3,h4,whenV,firstL]
  ·simp only[Bool.not_eq_true] at h4
   simp[h1,h2,h4,whenV,firstL]
 ·simp[h1,h2,h3,whenV,firstL]
end
section
open Go Go.RowKit
attribute [local go_sem] over_cell
theorem task_c (a:Option Addr) (n c:Nat) (ls:List (List Int)) (cells sum:Int) (a':Option Addr) (n' c':Nat) (g:List Int) (w:World) (h:RC w a n ls) (hcap:n≤c) (h':IC w a' n' g) (hcap':n'≤c') :
  Calls Tryz.prog 56 #[.agg #[.int .i64 cells,.slice a n c,.int .i64 sum,.slice a' n' c']] w fun e w'=>e = .returned (.int .i64 (taskErr cells ls sum g))∧Below w.heap.size w w':=by
 have hm:=h.small
 have hm':=h'.small
 have hF0:=task_first (sysErr cells ls) sum cells n' ls g h'.len rfl
 by_cases hs1:sum<1
 ·have ed:decide (sum<1)=true:=by simpa using hs1
  have hF:Hid (taskErr cells ls sum g=if firstL [sysErr cells ls,whenV true 3,whenV ((n':Int) != cells) 2]≠0 then firstL [sysErr cells ls,whenV true 3,whenV ((n':Int) != cells) 2] else errs (givenBad cells g) n'):=by
   rw[ed] at hF0;exact hF0
  clear hF0 hs1
  go_enter Tryz.func56,Tryz.ntmps56
  go_wp2
  have hsz:w.heap.size<(w.alloc (.cells #[.int .i64 cells,.slice a n c,.int .i64 sum,.slice a' n' c'] 27)).heap.size:=by simp
  have hB:Below w.heap.size w (w.alloc (.cells #[.int .i64 cells,.slice a n c,.int .i64 sum,.slice a' n' c'] 27)):=(Below.refl _ _).alloc (Nat.le_refl _) _
  have x0:(w.alloc (.cells #[.int .i64 cells,.slice a n c,.int .i64 sum,.slice a' n' c'] 27)).cell? ⟨w.heap.size,0,none⟩=some (.int .i64 cells):=(box_cells w #[.int .i64 cells,.slice a n c,.int .i64 sum,.slice a' n' c'] 27 0).trans rfl
  have x1:(w.alloc (.cells #[.int .i64 cells,.slice a n c,.int .i64 sum,.slice a' n' c'] 27)).cell? ⟨w.heap.size,1,none⟩=some (.slice a n c):=(box_cells w #[.int .i64 cells,.slice a n c,.int .i64 sum,.slice a' n' c'] 27 1).trans rfl
  have x2:(w.alloc (.cells #[.int .i64 cells,.slice a n c,.int .i64 sum,.slice a' n' c'] 27)).cell? ⟨w.heap.size,2,none⟩=some (.int .i64 sum):=(box_cells w #[.int .i64 cells,.slice a n c,.int .i64 sum,.slice a' n' c'] 27 2).trans rfl
  have x3:(w.alloc (.cells #[.int .i64 cells,.slice a n c,.int .i64 sum,.slice a' n' c'] 27)).cell? ⟨w.heap.size,3,none⟩=some (.slice a' n' c'):=(box_cells w #[.int .i64 cells,.slice a n c,.int .i64 sum,.slice a' n' c'] 27 3).trans rfl
  generalize (w.alloc (.cells #[.int .i64 cells,.slice a n c,.int .i64 sum,.slice a' n' c'] 27))=W0 at hsz hB x0 x1 x2 x3 ⊢
  have h0:=h.mono hB
  have h0':=h'.mono hB
  refine wp_region_S (fun w'=>∃u,w'=over (W0) u) [20,19,18,17] [(0,0),(0,1),(0,3),(0,4),(0,5),(0,12),(0,13),(0,14),(0,15),(0,16),(1,2),(0,6),(0,7),(0,8),(0,9),(0,10),(1,11),(2,17),(2,18),(2,19),(2,20)] (by kernel_rfl) (by kernel_rfl) (by exact ⟨_,below_over (by repeat (first|assumption|exact Below.refl _ _|refine keep_drew ?_|refine keep_alloc ?_ _|refine keep_trans ?_ (by assumption)))⟩) ?_
  dsimp only[pickOps,nthOp]
  repeat (first|(refine wpS_skip rfl (fun K hK=>?_);go_big_quiet_op;refine hK _ ?_;clear hK K)|(refine wpS_quiet rfl rfl (fun K hK=>?_);go_big_quiet_op;refine hK _ ?_;clear hK K)|(refine wpS_loud ?_;go_wp2_with (first|(go_at_call 94;refine (sys_c _ _ _ _ _ _ (h0.mono (keep_drew (Below.refl _ _))) hcap).mono ?_;rintro e w1 ⟨rfl,hb1⟩)|(go_at_call 66;refine (when_c _ _ _).mono ?_;rintro e w2 ⟨rfl,rfl⟩)|(go_at_call 65;refine (first_c _ _ _ _ _ (IC.new3 _ _ _ _ _)).mono ?_;rintro e w2 ⟨rfl,rfl⟩));refine ⟨?_,?_⟩;focus (exact ⟨_,below_over (by repeat (first|assumption|exact Below.refl _ _|refine keep_drew ?_|refine keep_alloc ?_ _|refine keep_trans ?_ (by assumption)))⟩)))
  refine wpS_late _ _ _ rfl ?_
  dsimp only[List.map]
  go_wp2_with (first|(go_at_call 94;refine (sys_c _ _ _ _ _ _ (h0.mono (keep_drew (Below.refl _ _))) hcap).mono ?_;rintro e w1 ⟨rfl,hb1⟩)|(go_at_call 66;refine (when_c _ _ _).mono ?_;rintro e w2 ⟨rfl,rfl⟩)|(go_at_call 65;refine (first_c _ _ _ _ _ (IC.new3 _ _ _ _ _)).mono ?_;rintro e w2 ⟨rfl,rfl⟩))
  refine NoPanic.normal ?_
  have hb2:Below W0.heap.size W0 (w1.alloc (.cells #[.int .i64 (sysErr cells ls),.int .i64 (whenV true 3),.int .i64 (whenV ((n':Int) != cells) 2)] 34)):=keep_alloc (keep_trans (keep_drew (Below.refl _ _)) hb1) _
  generalize (w1.alloc (.cells #[.int .i64 (sysErr cells ls),.int .i64 (whenV true 3),.int .i64 (whenV ((n':Int) != cells) 2)] 34))=w3 at hb2 ⊢
  clear hb1
  generalize firstL [sysErr cells ls,whenV true 3,whenV ((n':Int) != cells) 2]=v at hF ⊢
  have hB3:Below w.heap.size w w3:=hB.trans (hb2.mono (by omega))
  have h3':=h0'.mono hb2
  have hsz3:w.heap.size<w3.heap.size:=by have:=hb2.size;omega
  have y0:=((bcell hb2).1 _ _ hsz).trans x0
  have y3:=((bcell hb2).1 _ _ hsz).trans x3
  clear x0 x1 x2 x3
  by_cases hv:v=0
  case neg =>
   have hv':(v != 0)=true:=by simpa using hv
   have hV:=Lib.hid hv
   clear hv
   go_wp2
   go_ret
   exact ⟨ret_int (by rw[hF.out,if_pos hV.out]),hB3⟩
  have hv':(v != 0)=false:=by simpa using hv
  have hV:=Lib.hid hv
  clear hv
  go_wp2
  have Y0:=Lib.hid y0
  have Y3:=Lib.hid y3
  clear y0 y3
  go_loopw [5,6,7,37] (fun _ _ _ i wr=>∃k:Nat,k≤n'∧i = .int .i64 k∧Hid (∀j,j<k→givenBad cells g j=0)∧Below w3.heap.size w3 wr) (fun _ _ _ i _=>n' - (intOf i).toNat)
  case atStart=>exact ⟨0,by omega,rfl,fun j hj=>absurd hj (by omega),Below.refl _ _⟩
  case round =>
   obtain ⟨k,hk,rfl,hn,hbr⟩:=hrel
   have hszr:w.heap.size<wr.heap.size:=by have:=hbr.size;omega
   have z0:=((bcell hbr).1 _ _ hsz3).trans Y0.out
   have z3:=((bcell hbr).1 _ _ hsz3).trans Y3.out
   by_cases hlt:k<n'
   ·obtain ⟨b,off,rfl,hb,hc⟩:=(h3'.mono hbr).2 k hlt
    have hli:(k:Int)<(n':Int):=by omega
    have hl0:(0:Int)≤(k:Int):=by omega
    have hkc:k≤c':=by omega
    have hit:=(h3'.mono hbr).take k hk
    have hG:=Lib.hid (given_first cells g k)
    by_cases g1:g[k]?.getD 0<0
    ·have e1:decide (g[k]?.getD 0<0)=true:=by simpa using g1
     have e2:decide (0<g[k]?.getD 0)=false:=by simp;omega
     have hG2:Hid (givenBad cells g k=firstL [whenV true 3,whenV false 9]):=by
      have:=hG.out;rw[e1,e2] at this;exact this
     clear hG
     by_cases hq:firstL [whenV true 3,whenV false 9]=0
     ·have hq':(firstL [whenV true 3,whenV false 9] != 0)=false:=by simpa using hq
      have hQ:=Lib.hid hq
      clear hq
      go_wp2_with (first|(go_at_call 134;refine (contains_c _ _ _ _ _ _ hit).mono ?_;rintro e w2 ⟨rfl,rfl⟩)|(go_at_call 66;refine (when_c _ _ _).mono ?_;rintro e w2 ⟨rfl,rfl⟩)|(go_at_call 65;refine (first_c _ _ _ _ _ (IC.new2 _ _ _ _)).mono ?_;rintro e w2 ⟨rfl,rfl⟩))
      go_roundw
      case rel=>exact ⟨k+1,by omega,by go_num,upto_snoc hn.out (by rw[hG2.out];exact hQ.out),keep_alloc hbr _⟩
      case measure=>simp[intOf];omega
     ·have hq':(firstL [whenV true 3,whenV false 9] != 0)=true:=by simpa using hq
      have hQ:=Lib.hid hq
      clear hq
      go_wp2_with (first|(go_at_call 134;refine (contains_c _ _ _ _ _ _ hit).mono ?_;rintro e w2 ⟨rfl,rfl⟩)|(go_at_call 66;refine (when_c _ _ _).mono ?_;rintro e w2 ⟨rfl,rfl⟩)|(go_at_call 65;refine (first_c _ _ _ _ _ (IC.new2 _ _ _ _)).mono ?_;rintro e w2 ⟨rfl,rfl⟩))
      go_ret
      have h1:=errs_found hn.out hlt (by rw[hG2.out];exact hQ.out)
      exact ⟨ret_int (by rw[hF.out,if_neg (by rw[hV.out];simp),h1,hG2.out]),keep_alloc (hB3.trans (hbr.mono (by omega))) _⟩
    ·have e1:decide (g[k]?.getD 0<0)=false:=by simpa using g1
     by_cases g2:0<g[k]?.getD 0
     ·have e2:decide (0<g[k]?.getD 0)=true:=by simpa using g2
      have hG2:Hid (givenBad cells g k=firstL [whenV (decide (cells<g[k]?.getD 0)) 3,whenV (hasB (g.take k) (g[k]?.getD 0)) 9]):=by
       have:=hG.out;rw[e1,e2] at this;exact this
      clear hG
      by_cases hq:firstL [whenV (decide (cells<g[k]?.getD 0)) 3,whenV (hasB (g.take k) (g[k]?.getD 0)) 9]=0
      ·have hq':(firstL [whenV (decide (cells<g[k]?.getD 0)) 3,whenV (hasB (g.take k) (g[k]?.getD 0)) 9] != 0)=false:=by simpa using hq
       have hQ:=Lib.hid hq
       clear hq
       go_wp2_with (first|(go_at_call 134;refine (contains_c _ _ _ _ _ _ hit).mono ?_;rintro e w2 ⟨rfl,rfl⟩)|(go_at_call 66;refine (when_c _ _ _).mono ?_;rintro e w2 ⟨rfl,rfl⟩)|(go_at_call 65;refine (first_c _ _ _ _ _ (IC.new2 _ _ _ _)).mono ?_;rintro e w2 ⟨rfl,rfl⟩))
       go_roundw
       case rel=>exact ⟨k+1,by omega,by go_num,upto_snoc hn.out (by rw[hG2.out];exact hQ.out),keep_alloc hbr _⟩
       case measure=>simp[intOf];omega
      ·have hq':(firstL [whenV (decide (cells<g[k]?.getD 0)) 3,whenV (hasB (g.take k) (g[k]?.getD 0)) 9] != 0)=true:=by simpa using hq
       have hQ:=Lib.hid hq
       clear hq
       go_wp2_with (first|(go_at_call 134;refine (contains_c _ _ _ _ _ _ hit).mono ?_;rintro e w2 ⟨rfl,rfl⟩)|(go_at_call 66;refine (when_c _ _ _).mono ?_;rintro e w2 ⟨rfl,rfl⟩)|(go_at_call 65;refine (first_c _ _ _ _ _ (IC.new2 _ _ _ _)).mono ?_;rintro e w2 ⟨rfl,rfl⟩))
       go_ret
       have h1:=errs_found hn.out hlt (by rw[hG2.out];exact hQ.out)
       exact ⟨ret_int (by rw[hF.out,if_neg (by rw[hV.out];simp),h1,hG2.out]),keep_alloc (hB3.trans (hbr.mono (by omega))) _⟩
     ·have e2:decide (0<g[k]?.getD 0)=false:=by simpa using g2
      have hG2:Hid (givenBad cells g k=firstL [whenV (decide (cells<g[k]?.getD 0)) 3,whenV false 9]):=by
       have:=hG.out;rw[e1,e2] at this;exact this
      clear hG
      by_cases hq:firstL [whenV (decide (cells<g[k]?.getD 0)) 3,whenV false 9]=0
      ·have hq':(firstL [whenV (decide (cells<g[k]?.getD 0)) 3,whenV false 9] != 0)=false:=by simpa using hq
       have hQ:=Lib.hid hq
       clear hq
       go_wp2_with (first|(go_at_call 134;refine (contains_c _ _ _ _ _ _ hit).mono ?_;rintro e w2 ⟨rfl,rfl⟩)|(go_at_call 66;refine (when_c _ _ _).mono ?_;rintro e w2 ⟨rfl,rfl⟩)|(go_at_call 65;refine (first_c _ _ _ _ _ (IC.new2 _ _ _ _)).mono ?_;rintro e w2 ⟨rfl,rfl⟩))
       go_roundw
       case rel=>exact ⟨k+1,by omega,by go_num,upto_snoc hn.out (by rw[hG2.out];exact hQ.out),keep_alloc hbr _⟩
       case measure=>simp[intOf];omega
      ·have hq':(firstL [whenV (decide (cells<g[k]?.getD 0)) 3,whenV false 9] != 0)=true:=by simpa using hq
       have hQ:=Lib.hid hq
       clear hq
       go_wp2_with (first|(go_at_call 134;refine (contains_c _ _ _ _ _ _ hit).mono ?_;rintro e w2 ⟨rfl,rfl⟩)|(go_at_call 66;refine (when_c _ _ _).mono ?_;rintro e w2 ⟨rfl,rfl⟩)|(go_at_call 65;refine (first_c _ _ _ _ _ (IC.new2 _ _ _ _)).mono ?_;rintro e w2 ⟨rfl,rfl⟩))
       go_ret
       have h1:=errs_found hn.out hlt (by rw[hG2.out];exact hQ.out)
       exact ⟨ret_int (by rw[hF.out,if_neg (by rw[hV.out];simp),h1,hG2.out]),keep_alloc (hB3.trans (hbr.mono (by omega))) _⟩
   ·have e:k=n':=by omega
    subst e
    go_wp2
    go_ret
    exact ⟨ret_int (by rw[hF.out,if_neg (by rw[hV.out];simp),errs_none hn.out]),hB3.trans (hbr.mono (by omega))⟩
 ·have ed:decide (sum<1)=false:=by simpa using hs1
  have hF:Hid (taskErr cells ls sum g=if firstL [sysErr cells ls,whenV (decide (999999999<sum)) 3,whenV ((n':Int) != cells) 2]≠0 then firstL [sysErr cells ls,whenV (decide (999999999<sum)) 3,whenV ((n':Int) != cells) 2] else errs (givenBad cells g) n'):=by
   rw[ed] at hF0;exact hF0
  clear hF0 hs1
  go_enter Tryz.func56,Tryz.ntmps56
  go_wp2
  have hsz:w.heap.size<(w.alloc (.cells #[.int .i64 cells,.slice a n c,.int .i64 sum,.slice a' n' c'] 27)).heap.size:=by simp
  have hB:Below w.heap.size w (w.alloc (.cells #[.int .i64 cells,.slice a n c,.int .i64 sum,.slice a' n' c'] 27)):=(Below.refl _ _).alloc (Nat.le_refl _) _
  have x0:(w.alloc (.cells #[.int .i64 cells,.slice a n c,.int .i64 sum,.slice a' n' c'] 27)).cell? ⟨w.heap.size,0,none⟩=some (.int .i64 cells):=(box_cells w #[.int .i64 cells,.slice a n c,.int .i64 sum,.slice a' n' c'] 27 0).trans rfl
  have x1:(w.alloc (.cells #[.int .i64 cells,.slice a n c,.int .i64 sum,.slice a' n' c'] 27)).cell? ⟨w.heap.size,1,none⟩=some (.slice a n c):=(box_cells w #[.int .i64 cells,.slice a n c,.int .i64 sum,.slice a' n' c'] 27 1).trans rfl
  have x2:(w.alloc (.cells #[.int .i64 cells,.slice a n c,.int .i64 sum,.slice a' n' c'] 27)).cell? ⟨w.heap.size,2,none⟩=some (.int .i64 sum):=(box_cells w #[.int .i64 cells,.slice a n c,.int .i64 sum,.slice a' n' c'] 27 2).trans rfl
  have x3:(w.alloc (.cells #[.int .i64 cells,.slice a n c,.int .i64 sum,.slice a' n' c'] 27)).cell? ⟨w.heap.size,3,none⟩=some (.slice a' n' c'):=(box_cells w #[.int .i64 cells,.slice a n c,.int .i64 sum,.slice a' n' c'] 27 3).trans rfl
  generalize (w.alloc (.cells #[.int .i64 cells,.slice a n c,.int .i64 sum,.slice a' n' c'] 27))=W0 at hsz hB x0 x1 x2 x3 ⊢
  have h0:=h.mono hB
  have h0':=h'.mono hB
  refine wp_region_S (fun w'=>∃u,w'=over (W0) u) [20,19,18,17] [(0,0),(0,1),(0,3),(0,4),(0,5),(0,12),(0,13),(0,14),(0,15),(0,16),(1,2),(0,6),(0,7),(0,8),(0,9),(0,10),(1,11),(2,17),(2,18),(2,19),(2,20)] (by kernel_rfl) (by kernel_rfl) (by exact ⟨_,below_over (by repeat (first|assumption|exact Below.refl _ _|refine keep_drew ?_|refine keep_alloc ?_ _|refine keep_trans ?_ (by assumption)))⟩) ?_
  dsimp only[pickOps,nthOp]
  repeat (first|(refine wpS_skip rfl (fun K hK=>?_);go_big_quiet_op;refine hK _ ?_;clear hK K)|(refine wpS_quiet rfl rfl (fun K hK=>?_);go_big_quiet_op;refine hK _ ?_;clear hK K)|(refine wpS_loud ?_;go_wp2_with (first|(go_at_call 94;refine (sys_c _ _ _ _ _ _ (h0.mono (keep_drew (Below.refl _ _))) hcap).mono ?_;rintro e w1 ⟨rfl,hb1⟩)|(go_at_call 66;refine (when_c _ _ _).mono ?_;rintro e w2 ⟨rfl,rfl⟩)|(go_at_call 65;refine (first_c _ _ _ _ _ (IC.new3 _ _ _ _ _)).mono ?_;rintro e w2 ⟨rfl,rfl⟩));refine ⟨?_,?_⟩;focus (exact ⟨_,below_over (by repeat (first|assumption|exact Below.refl _ _|refine keep_drew ?_|refine keep_alloc ?_ _|refine keep_trans ?_ (by assumption)))⟩)))
  refine wpS_late _ _ _ rfl ?_
  dsimp only[List.map]
  go_wp2_with (first|(go_at_call 94;refine (sys_c _ _ _ _ _ _ (h0.mono (keep_drew (Below.refl _ _))) hcap).mono ?_;rintro e w1 ⟨rfl,hb1⟩)|(go_at_call 66;refine (when_c _ _ _).mono ?_;rintro e w2 ⟨rfl,rfl⟩)|(go_at_call 65;refine (first_c _ _ _ _ _ (IC.new3 _ _ _ _ _)).mono ?_;rintro e w2 ⟨rfl,rfl⟩))
  refine NoPanic.normal ?_
  have hb2:Below W0.heap.size W0 (w1.alloc (.cells #[.int .i64 (sysErr cells ls),.int .i64 (whenV (decide (999999999<sum)) 3),.int .i64 (whenV ((n':Int) != cells) 2)] 34)):=keep_alloc (keep_trans (keep_drew (Below.refl _ _)) hb1) _
  generalize (w1.alloc (.cells #[.int .i64 (sysErr cells ls),.int .i64 (whenV (decide (999999999<sum)) 3),.int .i64 (whenV ((n':Int) != cells) 2)] 34))=w3 at hb2 ⊢
  clear hb1
  generalize firstL [sysErr cells ls,whenV (decide (999999999<sum)) 3,whenV ((n':Int) != cells) 2]=v at hF ⊢
  have hB3:Below w.heap.size w w3:=hB.trans (hb2.mono (by omega))
  have h3':=h0'.mono hb2
  have hsz3:w.heap.size<w3.heap.size:=by have:=hb2.size;omega
  have y0:=((bcell hb2).1 _ _ hsz).trans x0
  have y3:=((bcell hb2).1 _ _ hsz).trans x3
  clear x0 x1 x2 x3
  by_cases hv:v=0
  case neg =>
   have hv':(v != 0)=true:=by simpa using hv
   have hV:=Lib.hid hv
   clear hv
   go_wp2
   go_ret
   exact ⟨ret_int (by rw[hF.out,if_pos hV.out]),hB3⟩
  have hv':(v != 0)=false:=by simpa using hv
  have hV:=Lib.hid hv
  clear hv
  go_wp2
  have Y0:=Lib.hid y0
  have Y3:=Lib.hid y3
  clear y0 y3
  go_loopw [5,6,7,37] (fun _ _ _ i wr=>∃k:Nat,k≤n'∧i = .int .i64 k∧Hid (∀j,j<k→givenBad cells g j=0)∧Below w3.heap.size w3 wr) (fun _ _ _ i _=>n' - (intOf i).toNat)
  case atStart=>exact ⟨0,by omega,rfl,fun j hj=>absurd hj (by omega),Below.refl _ _⟩
  case round =>
   obtain ⟨k,hk,rfl,hn,hbr⟩:=hrel
   have hszr:w.heap.size<wr.heap.size:=by have:=hbr.size;omega
   have z0:=((bcell hbr).1 _ _ hsz3).trans Y0.out
   have z3:=((bcell hbr).1 _ _ hsz3).trans Y3.out
   by_cases hlt:k<n'
   ·obtain ⟨b,off,rfl,hb,hc⟩:=(h3'.mono hbr).2 k hlt
    have hli:(k:Int)<(n':Int):=by omega
    have hl0:(0:Int)≤(k:Int):=by omega
    have hkc:k≤c':=by omega
    have hit:=(h3'.mono hbr).take k hk
    have hG:=Lib.hid (given_first cells g k)
    by_cases g1:g[k]?.getD 0<0
    ·have e1:decide (g[k]?.getD 0<0)=true:=by simpa using g1
     have e2:decide (0<g[k]?.getD 0)=false:=by simp;omega
     have hG2:Hid (givenBad cells g k=firstL [whenV true 3,whenV false 9]):=by
      have:=hG.out;rw[e1,e2] at this;exact this
     clear hG
     by_cases hq:firstL [whenV true 3,whenV false 9]=0
     ·have hq':(firstL [whenV true 3,whenV false 9] != 0)=false:=by simpa using hq
      have hQ:=Lib.hid hq
      clear hq
      go_wp2_with (first|(go_at_call 134;refine (contains_c _ _ _ _ _ _ hit).mono ?_;rintro e w2 ⟨rfl,rfl⟩)|(go_at_call 66;refine (when_c _ _ _).mono ?_;rintro e w2 ⟨rfl,rfl⟩)|(go_at_call 65;refine (first_c _ _ _ _ _ (IC.new2 _ _ _ _)).mono ?_;rintro e w2 ⟨rfl,rfl⟩))
      go_roundw
      case rel=>exact ⟨k+1,by omega,by go_num,upto_snoc hn.out (by rw[hG2.out];exact hQ.out),keep_alloc hbr _⟩
      case measure=>simp[intOf];omega
     ·have hq':(firstL [whenV true 3,whenV false 9] != 0)=true:=by simpa using hq
      have hQ:=Lib.hid hq
      clear hq
      go_wp2_with (first|(go_at_call 134;refine (contains_c _ _ _ _ _ _ hit).mono ?_;rintro e w2 ⟨rfl,rfl⟩)|(go_at_call 66;refine (when_c _ _ _).mono ?_;rintro e w2 ⟨rfl,rfl⟩)|(go_at_call 65;refine (first_c _ _ _ _ _ (IC.new2 _ _ _ _)).mono ?_;rintro e w2 ⟨rfl,rfl⟩))
      go_ret
      have h1:=errs_found hn.out hlt (by rw[hG2.out];exact hQ.out)
      exact ⟨ret_int (by rw[hF.out,if_neg (by rw[hV.out];simp),h1,hG2.out]),keep_alloc (hB3.trans (hbr.mono (by omega))) _⟩
    ·have e1:decide (g[k]?.getD 0<0)=false:=by simpa using g1
     by_cases g2:0<g[k]?.getD 0
     ·have e2:decide (0<g[k]?.getD 0)=true:=by simpa using g2
      have hG2:Hid (givenBad cells g k=firstL [whenV (decide (cells<g[k]?.getD 0)) 3,whenV (hasB (g.take k) (g[k]?.getD 0)) 9]):=by
       have:=hG.out;rw[e1,e2] at this;exact this
      clear hG
      by_cases hq:firstL [whenV (decide (cells<g[k]?.getD 0)) 3,whenV (hasB (g.take k) (g[k]?.getD 0)) 9]=0
      ·have hq':(firstL [whenV (decide (cells<g[k]?.getD 0)) 3,whenV (hasB (g.take k) (g[k]?.getD 0)) 9] != 0)=false:=by simpa using hq
       have hQ:=Lib.hid hq
       clear hq
       go_wp2_with (first|(go_at_call 134;refine (contains_c _ _ _ _ _ _ hit).mono ?_;rintro e w2 ⟨rfl,rfl⟩)|(go_at_call 66;refine (when_c _ _ _).mono ?_;rintro e w2 ⟨rfl,rfl⟩)|(go_at_call 65;refine (first_c _ _ _ _ _ (IC.new2 _ _ _ _)).mono ?_;rintro e w2 ⟨rfl,rfl⟩))
       go_roundw
       case rel=>exact ⟨k+1,by omega,by go_num,upto_snoc hn.out (by rw[hG2.out];exact hQ.out),keep_alloc hbr _⟩
       case measure=>simp[intOf];omega
      ·have hq':(firstL [whenV (decide (cells<g[k]?.getD 0)) 3,whenV (hasB (g.take k) (g[k]?.getD 0)) 9] != 0)=true:=by simpa using hq
       have hQ:=Lib.hid hq
       clear hq
       go_wp2_with (first|(go_at_call 134;refine (contains_c _ _ _ _ _ _ hit).mono ?_;rintro e w2 ⟨rfl,rfl⟩)|(go_at_call 66;refine (when_c _ _ _).mono ?_;rintro e w2 ⟨rfl,rfl⟩)|(go_at_call 65;refine (first_c _ _ _ _ _ (IC.new2 _ _ _ _)).mono ?_;rintro e w2 ⟨rfl,rfl⟩))
       go_ret
       have h1:=errs_found hn.out hlt (by rw[hG2.out];exact hQ.out)
       exact ⟨ret_int (by rw[hF.out,if_neg (by rw[hV.out];simp),h1,hG2.out]),keep_alloc (hB3.trans (hbr.mono (by omega))) _⟩
     ·have e2:decide (0<g[k]?.getD 0)=false:=by simpa using g2
      have hG2:Hid (givenBad cells g k=firstL [whenV (decide (cells<g[k]?.getD 0)) 3,whenV false 9]):=by
       have:=hG.out;rw[e1,e2] at this;exact this
      clear hG
      by_cases hq:firstL [whenV (decide (cells<g[k]?.getD 0)) 3,whenV false 9]=0
      ·have hq':(firstL [whenV (decide (cells<g[k]?.getD 0)) 3,whenV false 9] != 0)=false:=by simpa using hq
       have hQ:=Lib.hid hq
       clear hq
       go_wp2_with (first|(go_at_call 134;refine (contains_c _ _ _ _ _ _ hit).mono ?_;rintro e w2 ⟨rfl,rfl⟩)|(go_at_call 66;refine (when_c _ _ _).mono ?_;rintro e w2 ⟨rfl,rfl⟩)|(go_at_call 65;refine (first_c _ _ _ _ _ (IC.new2 _ _ _ _)).mono ?_;rintro e w2 ⟨rfl,rfl⟩))
       go_roundw
       case rel=>exact ⟨k+1,by omega,by go_num,upto_snoc hn.out (by rw[hG2.out];exact hQ.out),keep_alloc hbr _⟩
       case measure=>simp[intOf];omega
      ·have hq':(firstL [whenV (decide (cells<g[k]?.getD 0)) 3,whenV false 9] != 0)=true:=by simpa using hq
       have hQ:=Lib.hid hq
       clear hq
       go_wp2_with (first|(go_at_call 134;refine (contains_c _ _ _ _ _ _ hit).mono ?_;rintro e w2 ⟨rfl,rfl⟩)|(go_at_call 66;refine (when_c _ _ _).mono ?_;rintro e w2 ⟨rfl,rfl⟩)|(go_at_call 65;refine (first_c _ _ _ _ _ (IC.new2 _ _ _ _)).mono ?_;rintro e w2 ⟨rfl,rfl⟩))
       go_ret
       have h1:=errs_found hn.out hlt (by rw[hG2.out];exact hQ.out)
       exact ⟨ret_int (by rw[hF.out,if_neg (by rw[hV.out];simp),h1,hG2.out]),keep_alloc (hB3.trans (hbr.mono (by omega))) _⟩
   ·have e:k=n':=by omega
    subst e
    go_wp2
    go_ret
    exact ⟨ret_int (by rw[hF.out,if_neg (by rw[hV.out];simp),errs_none hn.out]),hB3.trans (hbr.mono (by omega))⟩
end
section
open Go Go.RowKit
attribute [local go_sem] over_cell
theorem open_c (v1:Value) (cells sum:Int) (a':Option Addr) (n' c':Nat) (g:List Int) (w:World) (h':IC w a' n' g) :
  Calls Tryz.prog 139 #[.agg #[.int .i64 cells,v1,.int .i64 sum,.slice a' n' c']] w fun e w'=>∃v,e = .returned v∧w'.ownsRow w.heap.size 3 1 v (openL g).length ((openL g).map (Value.int .i64))∧Below w.heap.size w w':=by
 have hm':=h'.small
 obtain ⟨i0,hi,hz0,hz1,hz2⟩:=info_parts infoInt
 go_enter Tryz.func139,Tryz.ntmps139
 go_wp2
 have hsz:w.heap.size<(w.alloc (.cells #[.int .i64 cells,v1,.int .i64 sum,.slice a' n' c'] 27)).heap.size:=by simp
 have hB:Below w.heap.size w (w.alloc (.cells #[.int .i64 cells,v1,.int .i64 sum,.slice a' n' c'] 27)):=(Below.refl _ _).alloc (Nat.le_refl _) _
 have x0:(w.alloc (.cells #[.int .i64 cells,v1,.int .i64 sum,.slice a' n' c'] 27)).cell? ⟨w.heap.size,0,none⟩=some (.int .i64 cells):=(box_cells w #[.int .i64 cells,v1,.int .i64 sum,.slice a' n' c'] 27 0).trans rfl
 have x1:(w.alloc (.cells #[.int .i64 cells,v1,.int .i64 sum,.slice a' n' c'] 27)).cell? ⟨w.heap.size,1,none⟩=some (v1):=(box_cells w #[.int .i64 cells,v1,.int .i64 sum,.slice a' n' c'] 27 1).trans rfl
 have x2:(w.alloc (.cells #[.int .i64 cells,v1,.int .i64 sum,.slice a' n' c'] 27)).cell? ⟨w.heap.size,2,none⟩=some (.int .i64 sum):=(box_cells w #[.int .i64 cells,v1,.int .i64 sum,.slice a' n' c'] 27 2).trans rfl
 have x3:(w.alloc (.cells #[.int .i64 cells,v1,.int .i64 sum,.slice a' n' c'] 27)).cell? ⟨w.heap.size,3,none⟩=some (.slice a' n' c'):=(box_cells w #[.int .i64 cells,v1,.int .i64 sum,.slice a' n' c'] 27 3).trans rfl
 generalize (w.alloc (.cells #[.int .i64 cells,v1,.int .i64 sum,.slice a' n' c'] 27))=W0 at hsz hB x0 x1 x2 x3 ⊢
 have h0:=h'.mono hB
 clear x0 x1 x2 x3
 go_loopw [3,4,5,9] (fun v _ _ i wr=>∃k:Nat,k≤n'∧i = .int .i64 k∧wr.ownsRow W0.heap.size 3 1 v (openTo g k).length ((openTo g k).map (Value.int .i64))∧Below W0.heap.size W0 wr) (fun _ _ _ i _=>n' - (intOf i).toNat)
 case atStart=>exact ⟨0,by omega,rfl,World.ownsRow_nil _ _ _ _,Below.refl _ _⟩
 case round =>
  obtain ⟨k,hk,rfl,hown,hbr⟩:=hrel
  by_cases hlt:k<n'
  ·obtain ⟨b,off,rfl,hb,hc⟩:=(h0.mono hbr).2 k hlt
   have hlen:=openTo_len g k
   go_wp2_with (at_builtin;refine wpList_append_own _ rfl _ _ 25 rfl W0.heap.size 3 i0 (.int .i64 0) 1 8 Tryz.underlying25 hi hz0 hz1 hz2 rfl (by decide) _ _ _ rfl (hown.alloc _) ⟨wr.heap.size,0,none⟩ 1 1 [.int .i64 k] rfl rfl (cell_one_new _ _ _) (by simp[Value.oneCell']) (by unfold maxLen;omega) (by omega) (by have:=hbr.size;simp;omega) ?_)
   ·intro v' w1 hown' hgrow _
    have he:(g[k]?.getD 0==0)=true:=by assumption
    have hb1:Below W0.heap.size W0 w1:=(hbr.alloc hbr.size _).grown hgrow (by simp;have:=hbr.size;omega) (fun j e=>(hown.lt j e).1)
    have hown2:w1.ownsRow W0.heap.size 3 1 v' (openTo g (k+1)).length ((openTo g (k+1)).map (Value.int .i64)):=by
     rw[openTo_hit he];simpa using hown'
    clear hown' hgrow hown
    go_wp2
    go_roundw
    case rel=>exact ⟨k+1,by omega,by go_num,hown2,hb1⟩
    case measure=>simp[intOf];omega
   ·have he:(g[k]?.getD 0==0)=false:=by assumption
    go_roundw
    case rel=>exact ⟨k+1,by omega,by go_num,by rw[openTo_miss he];exact hown,hbr⟩
    case measure=>simp[intOf];omega
  ·have e:k=n':=by omega
   subst e
   go_wp2
   go_ret
   refine ⟨_,rfl,?_,hB.trans (hbr.mono (by omega))⟩
   rw[openL,h'.len]
   exact owns_base hown (by omega)
theorem PutW.set {w w':World} {b off M M':Nat} (h:SetC w b off M) (hp:PutW w w' b off M M'):SetC w' b off M':=by
 obtain ⟨q,hq,rfl,ho⟩:=hp
 intro q' hq'
 show (w.setCell _ _).cell? _=_
 by_cases e:q'=q
 ·subst e
  exact World.cell?_setCell_same _ _ _ (h q' hq')
 ·rw[World.cell?_setCell_other _ _ _ _ (fun e2=>e (by simp only[Addr.mk.injEq,true_and,and_true] at e2;omega)),h q' hq',ho q' e]
theorem PutW.frozen {w w':World} {b off M M':Nat} (hp:PutW w w' b off M M') (a:Addr):w'.frozen? a=w.frozen? a:=by
 obtain ⟨q,hq,rfl,ho⟩:=hp
 show (w.setCell _ _).frozen? _=_
 exact World.frozen?_setCell _ _ _ _
theorem SetC.mono {w w':World} {b off M:Nat} (h:SetC w b off M) (hb:Below w.heap.size w w') (hlt:b<w.heap.size):SetC w' b off M :=
 fun q hq=>((bcell hb).1 b _ hlt).trans (h q hq)
theorem PutW.size {w w':World} {b off M M':Nat} (hp:PutW w w' b off M M'):w.heap.size=w'.heap.size:=by
 obtain ⟨q,hq,rfl,ho⟩:=hp
 simp[World.drew,World.setCell]
theorem PutW.below {w w':World} {b off M M':Nat} (hp:PutW w w' b off M M'):Below b w w':=by
 obtain ⟨q,hq,rfl,ho⟩:=hp
 exact ((Below.refl b w).setCell (p:=⟨b,off+q,none⟩) (Nat.le_refl _) _).drew
def maskL (xs:List Int):Nat:=xs.foldl (fun M x=>if 0<x then M ||| 2 ^ (x.toNat - 1) else M) 0
theorem maskL_snoc (xs:List Int) (x:Int):maskL (xs++[x])=if 0<x then maskL xs ||| 2 ^ (x.toNat - 1) else maskL xs:=by
 simp[maskL,List.foldl_append]
theorem hasB_cons (x:Int) (xs:List Int) (y:Int):hasB (x :: xs) y=(decide (x=y)||hasB xs y):=by
 unfold hasB
 rw[Bool.eq_iff_iff]
 by_cases e:x=y
 ·subst e;simp
 ·have e':¬y=x:=fun h=>e h.symm
  simp[e,e']
theorem testBit_maskL (xs:List Int) (j:Nat):(maskL xs).testBit j=hasB xs ((j:Int)+1):=by
 have key:∀(xs:List Int) (M:Nat),(xs.foldl (fun M x=>if 0<x then M ||| 2 ^ (x.toNat - 1) else M) M).testBit j=(M.testBit j||hasB xs ((j:Int)+1)):=by
  intro xs
  induction xs with
  | nil=>intro M;simp[hasB]
  | cons x xs ih =>
   intro M
   rw[List.foldl_cons,ih]
   have e:hasB (x :: xs) ((j:Int)+1)=(decide (x=(j:Int)+1)||hasB xs ((j:Int)+1)):=hasB_cons x xs _
   rw[e]
   by_cases hx:0<x
   ·rw[if_pos hx,Nat.testBit_or,Nat.testBit_two_pow]
    have:decide (x.toNat - 1=j)=decide (x=(j:Int)+1):=by
     rw[decide_eq_decide];omega
    rw[this,Bool.or_assoc]
   ·rw[if_neg hx]
    have:decide (x=(j:Int)+1)=false:=by simp;omega
    rw[this];simp
 have:=key xs 0
 simpa [maskL] using this
def unusedTo (g:List Int) (k:Nat):List Int:=((List.range k).filter (fun (i:Nat)=>!hasB g ((i:Int)+1))).map (fun (i:Nat)=>(i:Int)+1)
def unusedL (g:List Int):List Int:=unusedTo g g.length
theorem unusedTo_hit {g:List Int} {k:Nat} (h:hasB g ((k:Int)+1)=false):unusedTo g (k+1)=unusedTo g k++[(k:Int)+1]:=by
 simp only[unusedTo,List.range_succ,List.filter_append,List.map_append]
 congr 1
 simp[h]
theorem unusedTo_miss {g:List Int} {k:Nat} (h:hasB g ((k:Int)+1)=true):unusedTo g (k+1)=unusedTo g k:=by
 simp only[unusedTo,List.range_succ,List.filter_append,List.map_append]
 simp[h]
theorem unusedTo_len (g:List Int) (k:Nat):(unusedTo g k).length≤k:=by
 simp only[unusedTo,List.length_map]
 have:=List.length_filter_le (fun (i:Nat)=>!hasB g ((i:Int)+1)) (List.range k)
 simpa using this
theorem unused_c (v1:Value) (cells sum:Int) (a':Option Addr) (n' c':Nat) (g:List Int) (w:World) (h':IC w a' n' g) (hn:n'≤256) (hg:∀k,k<n'→0≤g[k]?.getD 0∧g[k]?.getD 0≤256) :
  Calls Tryz.prog 73 #[.agg #[.int .i64 cells,v1,.int .i64 sum,.slice a' n' c']] w fun e w'=>∃v,e = .returned v∧w'.ownsRow w.heap.size 3 1 v (unusedL g).length ((unusedL g).map (Value.int .i64))∧Below w.heap.size w w':=by
 have hm':=h'.small
 have HG:=Lib.hid hg
 clear hg
 obtain ⟨i0,hi,hz0,hz1,hz2⟩:=info_parts infoInt
 go_enter Tryz.func73,Tryz.ntmps73
 go_wp2
 have hsz:w.heap.size<(w.alloc (.cells #[.int .i64 cells,v1,.int .i64 sum,.slice a' n' c'] 27)).heap.size:=by simp
 have hszE:(w.alloc (.cells #[.int .i64 cells,v1,.int .i64 sum,.slice a' n' c'] 27)).heap.size=w.heap.size+1:=by simp
 have hB:Below w.heap.size w (w.alloc (.cells #[.int .i64 cells,v1,.int .i64 sum,.slice a' n' c'] 27)):=(Below.refl _ _).alloc (Nat.le_refl _) _
 have x0:(w.alloc (.cells #[.int .i64 cells,v1,.int .i64 sum,.slice a' n' c'] 27)).cell? ⟨w.heap.size,0,none⟩=some (.int .i64 cells):=(box_cells w #[.int .i64 cells,v1,.int .i64 sum,.slice a' n' c'] 27 0).trans rfl
 have x1:(w.alloc (.cells #[.int .i64 cells,v1,.int .i64 sum,.slice a' n' c'] 27)).cell? ⟨w.heap.size,1,none⟩=some (v1):=(box_cells w #[.int .i64 cells,v1,.int .i64 sum,.slice a' n' c'] 27 1).trans rfl
 have x2:(w.alloc (.cells #[.int .i64 cells,v1,.int .i64 sum,.slice a' n' c'] 27)).cell? ⟨w.heap.size,2,none⟩=some (.int .i64 sum):=(box_cells w #[.int .i64 cells,v1,.int .i64 sum,.slice a' n' c'] 27 2).trans rfl
 have x3:(w.alloc (.cells #[.int .i64 cells,v1,.int .i64 sum,.slice a' n' c'] 27)).cell? ⟨w.heap.size,3,none⟩=some (.slice a' n' c'):=(box_cells w #[.int .i64 cells,v1,.int .i64 sum,.slice a' n' c'] 27 3).trans rfl
 generalize (w.alloc (.cells #[.int .i64 cells,v1,.int .i64 sum,.slice a' n' c'] 27))=W0 at hsz hszE hB x0 x1 x2 x3 ⊢
 have h0:=h'.mono hB
 clear x0 x1 x2
 have hset:SetC (W0.alloc (.cells #[.int .u64 0,.int .u64 0,.int .u64 0,.int .u64 0] 148)) W0.heap.size 0 (maskL (g.take 0)):=by
  intro q hq
  have e:word (maskL (g.take 0)) q=0:=by simp[maskL,word]
  rw[e,World.cell?_alloc_new]
  match q,hq with
  | 0,_=>rfl
  | 1,_=>rfl
  | 2,_=>rfl
  | 3,_=>rfl
 have hfz:∀q,q<4→(W0.alloc (.cells #[.int .u64 0,.int .u64 0,.int .u64 0,.int .u64 0] 148)).frozen? ⟨W0.heap.size,0+q,none⟩=false:=by
  intro q _;simp
 have hbw:Below W0.heap.size W0 (W0.alloc (.cells #[.int .u64 0,.int .u64 0,.int .u64 0,.int .u64 0] 148)):=(Below.refl _ W0).alloc (by simp) _
 have hszw:W0.heap.size+1=(W0.alloc (.cells #[.int .u64 0,.int .u64 0,.int .u64 0,.int .u64 0] 148)).heap.size:=by simp
 rw[hszE] at hset hfz hbw hszw
 generalize (W0.alloc (.cells #[.int .u64 0,.int .u64 0,.int .u64 0,.int .u64 0] 148))=W1 at hset hfz hbw hszw ⊢
 have X3:W1.cell? ⟨w.heap.size,3,none⟩=some (.slice a' n' c'):=((bcell (hszE▸hbw)).1 _ _ hsz).trans x3
 go_loopw [5,11] (fun _ i wr=>∃k:Nat,k≤n'∧i = .int .i64 k∧SetC wr (w.heap.size+1) 0 (maskL (g.take k))∧(∀q,q<4→wr.frozen? ⟨w.heap.size+1,0+q,none⟩=false)∧Below (w.heap.size+1) W0 wr∧w.heap.size+1<wr.heap.size) (fun _ i _=>n' - (intOf i).toNat)
 case atStart=>exact ⟨0,by omega,rfl,hset,hfz,hbw,by omega⟩
 case round =>
  clear hset hfz hbw hszw X3
  obtain ⟨k,hk,rfl,hset,hfz,hbr,hsr⟩:=hrel
  by_cases hlt:k<n'
  ·obtain ⟨b,off,rfl,hb,hc⟩:=(h0.mono (hszE▸hbr)).2 k hlt
   have hx:=HG.out k hlt
   have htk:g.take (k+1)=g.take k++[g[k]?.getD 0]:=take_snoc _ _ _ (by have:=h0.len;omega)
   generalize g[k]?.getD 0=x at hx hc htk
   go_wp2_with (go_at_call 146;refine (sput_c (w.heap.size+1) 0 (maskL (g.take k)) x wr hset (by omega) (by omega) (by omega) hfz).mono ?_;rintro _ w1 ⟨rfl,hp⟩)
   ·have hx0:0<x:=by go_num
    go_wp2
    go_roundw
    case rel =>
     refine ⟨k+1,by omega,by go_num,?_,fun q hq=>(hp.frozen _).trans (hfz q hq),hbr.trans (hp.below.mono (Nat.le_refl _)),by have:=hp.below.size;have:=hp.size;omega⟩
     rw[htk,maskL_snoc,if_pos hx0]
     exact PutW.set hset hp
    case measure=>simp[intOf];omega
   ·have hx0:¬0<x:=by go_num
    go_roundw
    case rel =>
     refine ⟨k+1,by omega,by go_num,?_,hfz,hbr,hsr⟩
     rw[htk,maskL_snoc,if_neg hx0]
     exact hset
    case measure=>simp[intOf];omega
  ·have e:k=n':=by omega
   subst e
   have hl:=h'.len
   have hM:g.take k=g:=by rw[← hl];exact List.take_length
   rw[hM] at hset
   clear hM hfz
   have X3:wr.cell? ⟨w.heap.size,3,none⟩=some (.slice a' k c'):=((bcell (hszE▸hbr)).1 _ _ hsz).trans x3
   obtain ⟨wo,ho⟩:∃wo:World,wo=wr:=⟨_,rfl⟩
   rw[← ho] at hset hbr hsr
   subst ho
   go_wp2
   clear X3
   go_loopw [6,7,23] (fun v _ i wr=>∃j:Nat,j≤k∧i = .int .i64 j∧wr.ownsRow wo.heap.size 3 1 v (unusedTo g j).length ((unusedTo g j).map (Value.int .i64))∧Below wo.heap.size wo wr) (fun _ _ i _=>k - (intOf i).toNat)
   case atStart=>exact ⟨0,by omega,rfl,World.ownsRow_nil _ _ _ _,Below.refl _ _⟩
   case round =>
    obtain ⟨j,hj,rfl,hown,hb2⟩:=hrel
    have hset2:=hset.mono hb2 hsr
    by_cases hlt:j<k
    ·have hlen:=unusedTo_len g j
     have hT:(maskL g).testBit (((j:Int)+1).toNat - 1)=hasB g ((j:Int)+1):=by
      rw[show ((j:Int)+1).toNat - 1=j from by omega];exact testBit_maskL g j
     have HC:=shas_c (w.heap.size+1) 0 (maskL g) ((j:Int)+1) wr hset2 (by omega) (by omega)
     rw[hT] at HC
     have HC':=Lib.hid HC
     clear HC hT hset2
     go_wp2_with (first|(go_at_call 147;refine HC'.out.mono ?_;rintro _ w1 ⟨rfl,rfl⟩)|(at_builtin;refine wpList_append_own _ rfl _ _ 25 rfl wo.heap.size 3 i0 (.int .i64 0) 1 8 Tryz.underlying25 hi hz0 hz1 hz2 rfl (by decide) _ _ _ rfl (hown.alloc _) ⟨wr.heap.size,0,none⟩ 1 1 [.int .i64 ((j:Int)+1)] rfl rfl (cell_one_new _ _ _) (by simp[Value.oneCell']) (by unfold maxLen;omega) (by omega) (by have:=hb2.size;simp;omega) ?_))
     ·intro v' w1 hown' hgrow _
      have hq:(!hasB g ((j:Int)+1))=true:=by assumption
      have he:hasB g ((j:Int)+1)=false:=by simpa using hq
      have hb1:Below wo.heap.size wo w1:=(hb2.alloc hb2.size _).grown hgrow (by simp;have:=hb2.size;omega) (fun q e=>(hown.lt q e).1)
      have hown2:w1.ownsRow wo.heap.size 3 1 v' (unusedTo g (j+1)).length ((unusedTo g (j+1)).map (Value.int .i64)):=by
       rw[unusedTo_hit he];simpa using hown'
      clear hown' hgrow hown
      go_wp2
      go_roundw
      case rel=>exact ⟨j+1,by omega,by go_num,hown2,hb1⟩
      case measure=>simp[intOf];omega
     ·have hq:(!hasB g ((j:Int)+1))=false:=by assumption
      have he:hasB g ((j:Int)+1)=true:=by simpa using hq
      go_roundw
      case rel=>exact ⟨j+1,by omega,by go_num,by rw[unusedTo_miss he];exact hown,hb2⟩
      case measure=>simp[intOf];omega
    ·have e:j=k:=by omega
     subst e
     go_wp2
     go_ret
     refine ⟨_,rfl,?_,hB.trans ((hbr.mono (by omega)).trans (hb2.mono (by omega)))⟩
     rw[unusedL,hl]
     exact owns_base hown (by omega)
end
end Go.Proofs.YtaadpihbjhachaaGreat
