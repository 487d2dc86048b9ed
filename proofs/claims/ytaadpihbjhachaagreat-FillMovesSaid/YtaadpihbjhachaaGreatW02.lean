/- Texts C3 to C8 of this proof, in one file. -/
import Derived.Test.YtaadpihbjhachaaGreatW01
import Derived.Laws.BitsAllLaws
namespace Go.Proofs.YtaadpihbjhachaaGreat
set_option maxRecDepth 100000
set_option maxHeartbeats 16000000
section
open Go Go.RowKit
attribute [local go_sem] zv
theorem givenBad_lo {cells:Int} {g:List Int} {k:Nat} (h:g[k]?.getD 0<0):jn cells g k=3:=by unfold jn;rw[if_pos (.inl h)]
theorem givenBad_hi {cells:Int} {g:List Int} {k:Nat} (h:cells<g[k]?.getD 0):jn cells g k=3:=by unfold jn;rw[if_pos (.inr h)]
theorem givenBad_tw {cells:Int} {g:List Int} {k:Nat} (h1:¬cells<g[k]?.getD 0) (hk:0<g[k]?.getD 0) (h:zY (g.take k) (g[k]?.getD 0)=true):jn cells g k=9:=by
 unfold jn;rw[if_neg (by omega),if_pos ⟨hk,h⟩]
theorem givenBad_ok {cells:Int} {g:List Int} {k:Nat} (h0:¬g[k]?.getD 0<0) (h1:¬cells<g[k]?.getD 0) (h:¬0<g[k]?.getD 0∨zY (g.take k) (g[k]?.getD 0)=false):jn cells g k=0:=by
 unfold jn;rw[if_neg (by omega),if_neg]
 rintro ⟨a,b⟩
 rcases h with h|h
 ·exact h a
 ·rw[h] at b;simp at b
theorem rtask_c (a:Option Addr) (n c:Nat) (ls:List (List Int)) (cells sum:Int) (a':Option Addr) (n' c':Nat) (g:List Int) (w:World) (h:RC w a n ls) (hcap:n≤c) (h':IC w a' n' g) (hcap':n'≤c') :
  Calls Tryz.prog 13 #[.agg #[.int .i64 cells,.slice a n c,.int .i64 sum,.slice a' n' c']] w fun e w'=>e = .returned (.int .i64 (zx cells ls sum g))∧Below w.heap.size w w':=by
 have hm:=h.small
 have hm':=h'.small
 by_cases h1:zX cells ls=0
 case neg =>
  have hf:Hid (zx cells ls sum g=zX cells ls):=by unfold Hid zx;rw[if_pos h1]
  have hd:(zX cells ls != 0)=true:=by simpa using h1
  have h0:=za h1;clear h1
  go_enter Tryz.func13,Tryz.ntmps13
  go_wp2_with fail
  have hsz:w.heap.size<(w.alloc (.cells #[.int .i64 cells,.slice a n c,.int .i64 sum,.slice a' n' c'] 30)).heap.size:=by simp
  have hB:Below w.heap.size w (w.alloc (.cells #[.int .i64 cells,.slice a n c,.int .i64 sum,.slice a' n' c'] 30)):=(Below.refl _ _).alloc (Nat.le_refl _) _
  have x0:(w.alloc (.cells #[.int .i64 cells,.slice a n c,.int .i64 sum,.slice a' n' c'] 30)).cell? ⟨w.heap.size,0,none⟩=some (.int .i64 cells):=(zq w #[.int .i64 cells,.slice a n c,.int .i64 sum,.slice a' n' c'] 30 0).trans rfl
  have x1:(w.alloc (.cells #[.int .i64 cells,.slice a n c,.int .i64 sum,.slice a' n' c'] 30)).cell? ⟨w.heap.size,1,none⟩=some (.slice a n c):=(zq w #[.int .i64 cells,.slice a n c,.int .i64 sum,.slice a' n' c'] 30 1).trans rfl
  have x2:(w.alloc (.cells #[.int .i64 cells,.slice a n c,.int .i64 sum,.slice a' n' c'] 30)).cell? ⟨w.heap.size,2,none⟩=some (.int .i64 sum):=(zq w #[.int .i64 cells,.slice a n c,.int .i64 sum,.slice a' n' c'] 30 2).trans rfl
  have x3:(w.alloc (.cells #[.int .i64 cells,.slice a n c,.int .i64 sum,.slice a' n' c'] 30)).cell? ⟨w.heap.size,3,none⟩=some (.slice a' n' c'):=(zq w #[.int .i64 cells,.slice a n c,.int .i64 sum,.slice a' n' c'] 30 3).trans rfl
  generalize (w.alloc (.cells #[.int .i64 cells,.slice a n c,.int .i64 sum,.slice a' n' c'] 30))=W0 at hsz hB x0 x1 x2 x3 ⊢
  refine (sys2_c _ _ _ _ _ _ (h.mono hB) hcap).mono ?_
  rintro e w1 ⟨rfl,hb1⟩
  go_wp2
  go_ret
  exact ⟨zD hf.out.symm,hB.trans (hb1.mono (by omega))⟩
 have hd0:(zX cells ls != 0)=false:=by simpa using h1
 have H1:=za h1;clear h1
 by_cases h2:sum<1
 ·have hf:Hid (zx cells ls sum g=3):=by unfold Hid zx;rw[if_neg (by rw[H1.out];omega),if_pos (.inl h2)]
  have hd:decide (sum<1)=true:=by simpa using h2
  go_enter Tryz.func13,Tryz.ntmps13
  go_wp2_with fail
  have hsz:w.heap.size<(w.alloc (.cells #[.int .i64 cells,.slice a n c,.int .i64 sum,.slice a' n' c'] 30)).heap.size:=by simp
  have hB:Below w.heap.size w (w.alloc (.cells #[.int .i64 cells,.slice a n c,.int .i64 sum,.slice a' n' c'] 30)):=(Below.refl _ _).alloc (Nat.le_refl _) _
  have x0:(w.alloc (.cells #[.int .i64 cells,.slice a n c,.int .i64 sum,.slice a' n' c'] 30)).cell? ⟨w.heap.size,0,none⟩=some (.int .i64 cells):=(zq w #[.int .i64 cells,.slice a n c,.int .i64 sum,.slice a' n' c'] 30 0).trans rfl
  have x1:(w.alloc (.cells #[.int .i64 cells,.slice a n c,.int .i64 sum,.slice a' n' c'] 30)).cell? ⟨w.heap.size,1,none⟩=some (.slice a n c):=(zq w #[.int .i64 cells,.slice a n c,.int .i64 sum,.slice a' n' c'] 30 1).trans rfl
  have x2:(w.alloc (.cells #[.int .i64 cells,.slice a n c,.int .i64 sum,.slice a' n' c'] 30)).cell? ⟨w.heap.size,2,none⟩=some (.int .i64 sum):=(zq w #[.int .i64 cells,.slice a n c,.int .i64 sum,.slice a' n' c'] 30 2).trans rfl
  have x3:(w.alloc (.cells #[.int .i64 cells,.slice a n c,.int .i64 sum,.slice a' n' c'] 30)).cell? ⟨w.heap.size,3,none⟩=some (.slice a' n' c'):=(zq w #[.int .i64 cells,.slice a n c,.int .i64 sum,.slice a' n' c'] 30 3).trans rfl
  generalize (w.alloc (.cells #[.int .i64 cells,.slice a n c,.int .i64 sum,.slice a' n' c'] 30))=W0 at hsz hB x0 x1 x2 x3 ⊢
  refine (sys2_c _ _ _ _ _ _ (h.mono hB) hcap).mono ?_
  rintro e w1 ⟨rfl,hb1⟩
  have y2:=((zF hb1).1 _ _ hsz).trans x2
  go_wp2
  go_ret
  exact ⟨zD hf.out.symm,hB.trans (hb1.mono (by omega))⟩
 have e2:decide (sum<1)=false:=by simpa using h2
 by_cases h3:999999999<sum
 ·have hf:Hid (zx cells ls sum g=3):=by unfold Hid zx;rw[if_neg (by rw[H1.out];omega),if_pos (.inr h3)]
  have hd:decide (999999999<sum)=true:=by simpa using h3
  go_enter Tryz.func13,Tryz.ntmps13
  go_wp2_with fail
  have hsz:w.heap.size<(w.alloc (.cells #[.int .i64 cells,.slice a n c,.int .i64 sum,.slice a' n' c'] 30)).heap.size:=by simp
  have hB:Below w.heap.size w (w.alloc (.cells #[.int .i64 cells,.slice a n c,.int .i64 sum,.slice a' n' c'] 30)):=(Below.refl _ _).alloc (Nat.le_refl _) _
  have x0:(w.alloc (.cells #[.int .i64 cells,.slice a n c,.int .i64 sum,.slice a' n' c'] 30)).cell? ⟨w.heap.size,0,none⟩=some (.int .i64 cells):=(zq w #[.int .i64 cells,.slice a n c,.int .i64 sum,.slice a' n' c'] 30 0).trans rfl
  have x1:(w.alloc (.cells #[.int .i64 cells,.slice a n c,.int .i64 sum,.slice a' n' c'] 30)).cell? ⟨w.heap.size,1,none⟩=some (.slice a n c):=(zq w #[.int .i64 cells,.slice a n c,.int .i64 sum,.slice a' n' c'] 30 1).trans rfl
  have x2:(w.alloc (.cells #[.int .i64 cells,.slice a n c,.int .i64 sum,.slice a' n' c'] 30)).cell? ⟨w.heap.size,2,none⟩=some (.int .i64 sum):=(zq w #[.int .i64 cells,.slice a n c,.int .i64 sum,.slice a' n' c'] 30 2).trans rfl
  have x3:(w.alloc (.cells #[.int .i64 cells,.slice a n c,.int .i64 sum,.slice a' n' c'] 30)).cell? ⟨w.heap.size,3,none⟩=some (.slice a' n' c'):=(zq w #[.int .i64 cells,.slice a n c,.int .i64 sum,.slice a' n' c'] 30 3).trans rfl
  generalize (w.alloc (.cells #[.int .i64 cells,.slice a n c,.int .i64 sum,.slice a' n' c'] 30))=W0 at hsz hB x0 x1 x2 x3 ⊢
  refine (sys2_c _ _ _ _ _ _ (h.mono hB) hcap).mono ?_
  rintro e w1 ⟨rfl,hb1⟩
  have y2:=((zF hb1).1 _ _ hsz).trans x2
  go_wp2
  go_ret
  exact ⟨zD hf.out.symm,hB.trans (hb1.mono (by omega))⟩
 have e3:decide (999999999<sum)=false:=by simpa using h3
 by_cases h4:(n':Int)=cells
 case neg =>
  have hf:Hid (zx cells ls sum g=2):=by unfold Hid zx;rw[if_neg (by rw[H1.out];omega),if_neg (by omega),h'.len,if_pos h4]
  have hd:((n':Int) != cells)=true:=by simpa using h4
  have h0:=za h4;clear h4
  go_enter Tryz.func13,Tryz.ntmps13
  go_wp2_with fail
  have hsz:w.heap.size<(w.alloc (.cells #[.int .i64 cells,.slice a n c,.int .i64 sum,.slice a' n' c'] 30)).heap.size:=by simp
  have hB:Below w.heap.size w (w.alloc (.cells #[.int .i64 cells,.slice a n c,.int .i64 sum,.slice a' n' c'] 30)):=(Below.refl _ _).alloc (Nat.le_refl _) _
  have x0:(w.alloc (.cells #[.int .i64 cells,.slice a n c,.int .i64 sum,.slice a' n' c'] 30)).cell? ⟨w.heap.size,0,none⟩=some (.int .i64 cells):=(zq w #[.int .i64 cells,.slice a n c,.int .i64 sum,.slice a' n' c'] 30 0).trans rfl
  have x1:(w.alloc (.cells #[.int .i64 cells,.slice a n c,.int .i64 sum,.slice a' n' c'] 30)).cell? ⟨w.heap.size,1,none⟩=some (.slice a n c):=(zq w #[.int .i64 cells,.slice a n c,.int .i64 sum,.slice a' n' c'] 30 1).trans rfl
  have x2:(w.alloc (.cells #[.int .i64 cells,.slice a n c,.int .i64 sum,.slice a' n' c'] 30)).cell? ⟨w.heap.size,2,none⟩=some (.int .i64 sum):=(zq w #[.int .i64 cells,.slice a n c,.int .i64 sum,.slice a' n' c'] 30 2).trans rfl
  have x3:(w.alloc (.cells #[.int .i64 cells,.slice a n c,.int .i64 sum,.slice a' n' c'] 30)).cell? ⟨w.heap.size,3,none⟩=some (.slice a' n' c'):=(zq w #[.int .i64 cells,.slice a n c,.int .i64 sum,.slice a' n' c'] 30 3).trans rfl
  generalize (w.alloc (.cells #[.int .i64 cells,.slice a n c,.int .i64 sum,.slice a' n' c'] 30))=W0 at hsz hB x0 x1 x2 x3 ⊢
  refine (sys2_c _ _ _ _ _ _ (h.mono hB) hcap).mono ?_
  rintro e w1 ⟨rfl,hb1⟩
  have y2:=((zF hb1).1 _ _ hsz).trans x2
  have y3:=((zF hb1).1 _ _ hsz).trans x3
  have y0:=((zF hb1).1 _ _ hsz).trans x0
  go_wp2
  go_ret
  exact ⟨zD hf.out.symm,hB.trans (hb1.mono (by omega))⟩
 have e4:((n':Int) != cells)=false:=by simpa using h4
 have hf:Hid (zx cells ls sum g=qQ (jn cells g) n'):=by unfold Hid zx;rw[if_neg (by rw[H1.out];omega),if_neg (by omega),h'.len,if_neg (by omega)]
 have H4:=za h4;clear h4
 go_enter Tryz.func13,Tryz.ntmps13
 go_wp2_with fail
 have hsz:w.heap.size<(w.alloc (.cells #[.int .i64 cells,.slice a n c,.int .i64 sum,.slice a' n' c'] 30)).heap.size:=by simp
 have hB:Below w.heap.size w (w.alloc (.cells #[.int .i64 cells,.slice a n c,.int .i64 sum,.slice a' n' c'] 30)):=(Below.refl _ _).alloc (Nat.le_refl _) _
 have x0:(w.alloc (.cells #[.int .i64 cells,.slice a n c,.int .i64 sum,.slice a' n' c'] 30)).cell? ⟨w.heap.size,0,none⟩=some (.int .i64 cells):=(zq w #[.int .i64 cells,.slice a n c,.int .i64 sum,.slice a' n' c'] 30 0).trans rfl
 have x1:(w.alloc (.cells #[.int .i64 cells,.slice a n c,.int .i64 sum,.slice a' n' c'] 30)).cell? ⟨w.heap.size,1,none⟩=some (.slice a n c):=(zq w #[.int .i64 cells,.slice a n c,.int .i64 sum,.slice a' n' c'] 30 1).trans rfl
 have x2:(w.alloc (.cells #[.int .i64 cells,.slice a n c,.int .i64 sum,.slice a' n' c'] 30)).cell? ⟨w.heap.size,2,none⟩=some (.int .i64 sum):=(zq w #[.int .i64 cells,.slice a n c,.int .i64 sum,.slice a' n' c'] 30 2).trans rfl
 have x3:(w.alloc (.cells #[.int .i64 cells,.slice a n c,.int .i64 sum,.slice a' n' c'] 30)).cell? ⟨w.heap.size,3,none⟩=some (.slice a' n' c'):=(zq w #[.int .i64 cells,.slice a n c,.int .i64 sum,.slice a' n' c'] 30 3).trans rfl
 generalize (w.alloc (.cells #[.int .i64 cells,.slice a n c,.int .i64 sum,.slice a' n' c'] 30))=W0 at hsz hB x0 x1 x2 x3 ⊢
 refine (sys2_c _ _ _ _ _ _ (h.mono hB) hcap).mono ?_
 rintro e w1 ⟨rfl,hb1⟩
 have y2:=((zF hb1).1 _ _ hsz).trans x2
 have y3:=((zF hb1).1 _ _ hsz).trans x3
 have y0:=((zF hb1).1 _ _ hsz).trans x0
 have hi1:=(h'.mono hB).mono hb1
 have hB1:Below w.heap.size w w1:=hB.trans (hb1.mono (by omega))
 have hsz1:w.heap.size<w1.heap.size:=by have:=hb1.size;omega
 go_wp2
 have Y0:=za y0
 have Y3:=za y3
 clear x0 x1 x2 x3 y0 y2 y3
 go_loopw [4] (fun i wr=>∃k:Nat,k≤n'∧i = .int .i64 k∧Hid (∀j,j<k→jn cells g j=0)∧Below w1.heap.size w1 wr) (fun i _=>n' - (intOf i).toNat)
 case atStart=>exact ⟨0,by omega,rfl,fun j hj=>absurd hj (by omega),Below.refl _ _⟩
 case round =>
  obtain ⟨k,hk,rfl,hn,hbr⟩:=hrel
  have hszr:w.heap.size<wr.heap.size:=by have:=hbr.size;omega
  have z0:=((zF hbr).1 _ _ hsz1).trans Y0.out
  have z3:=((zF hbr).1 _ _ hsz1).trans Y3.out
  by_cases hlt:k<n'
  ·obtain ⟨b,off,rfl,hb,hc⟩:=(hi1.mono hbr).2 k hlt
   have hli:(k:Int)<(n':Int):=by omega
   have hl0:(0:Int)≤(k:Int):=by omega
   have hkc:k≤c':=by omega
   by_cases g1:g[k]?.getD 0<0
   ·have f1:decide (g[k]?.getD 0<0)=true:=by simpa using g1
    have hE:=za (givenBad_lo (cells:=cells) g1)
    go_wp2
    refine zk (fun w'=>∃u,w'=over (wr) u) [] [(0,0),(0,1),(0,2),(0,3),(0,4),(0,5),(0,6),(0,7),(0,8),(0,9),(0,10),(0,11),(0,12),(0,13),(0,14),(0,15),(0,16)] (by kernel_rfl) (by kernel_rfl) (by exact ⟨_,zi (by repeat (first|assumption|exact Below.refl _ _|refine zd ?_|refine zg ?_ _|refine zb ?_ (by assumption)))⟩) ?_
    dsimp only[zt,zG]
    repeat (first|(refine zu rfl (fun K hK=>?_);go_big_quiet_op;refine hK _ ?_;clear hK K)|(refine zp rfl rfl (fun K hK=>?_);go_big_quiet_op;refine hK _ ?_;clear hK K))
    refine jI ?_
    go_wp2
    go_ret
    exact ⟨zD (by rw[hf.out,zS hn.out hlt (by rw[hE.out];omega),hE.out]),(hB1.trans (hbr.mono (by omega))).drew⟩
   have f1:decide (g[k]?.getD 0<0)=false:=by simpa using g1
   by_cases g2:cells<g[k]?.getD 0
   ·have f2:decide (cells<g[k]?.getD 0)=true:=by simpa using g2
    have hE:=za (givenBad_hi (cells:=cells) g2)
    go_wp2
    refine zk (fun w'=>∃u,w'=over (wr) u) [] [(0,0),(0,1),(0,2),(0,3),(0,4),(0,5),(0,6),(0,7),(0,8),(0,9),(0,10),(0,11),(0,12),(0,13),(0,14),(0,15),(0,16)] (by kernel_rfl) (by kernel_rfl) (by exact ⟨_,zi (by repeat (first|assumption|exact Below.refl _ _|refine zd ?_|refine zg ?_ _|refine zb ?_ (by assumption)))⟩) ?_
    dsimp only[zt,zG]
    repeat (first|(refine zu rfl (fun K hK=>?_);go_big_quiet_op;refine hK _ ?_;clear hK K)|(refine zp rfl rfl (fun K hK=>?_);go_big_quiet_op;refine hK _ ?_;clear hK K))
    refine jI ?_
    go_wp2
    go_ret
    exact ⟨zD (by rw[hf.out,zS hn.out hlt (by rw[hE.out];omega),hE.out]),(hB1.trans (hbr.mono (by omega))).drew⟩
   have f2:decide (cells<g[k]?.getD 0)=false:=by simpa using g2
   by_cases g3:0<g[k]?.getD 0
   ·have f3:decide (0<g[k]?.getD 0)=true:=by simpa using g3
    have hit:=(hi1.mono hbr).take k hk
    go_wp2
    refine zk (fun w'=>∃u,w'=over (wr) u) [] [(0,0),(0,1),(0,2),(0,3),(0,4),(0,5),(0,6),(0,7),(0,8),(0,9),(0,10),(0,11),(0,12),(0,13),(0,14),(0,15),(0,16)] (by kernel_rfl) (by kernel_rfl) (by exact ⟨_,zi (by repeat (first|assumption|exact Below.refl _ _|refine zd ?_|refine zg ?_ _|refine zb ?_ (by assumption)))⟩) ?_
    dsimp only[zt,zG]
    repeat (first|(refine zu rfl (fun K hK=>?_);go_big_quiet_op;refine hK _ ?_;clear hK K)|(refine zp rfl rfl (fun K hK=>?_);go_big_quiet_op;refine hK _ ?_;clear hK K))
    refine jI ?_
    go_wp2
    refine zk (fun w'=>∃u,w'=over (wr) u) [] [(0,0),(0,1),(0,2),(0,3),(0,4),(0,5),(0,6),(0,7),(0,8),(0,9),(0,10),(0,11),(0,12),(0,13),(0,14),(0,15),(1,16),(0,17)] (by kernel_rfl) (by kernel_rfl) (by exact ⟨_,zi (by repeat (first|assumption|exact Below.refl _ _|refine zd ?_|refine zg ?_ _|refine zb ?_ (by assumption)))⟩) ?_
    dsimp only[zt,zG]
    repeat (first|(refine zu rfl (fun K hK=>?_);go_big_quiet_op;refine hK _ ?_;clear hK K)|(refine zp rfl rfl (fun K hK=>?_);go_big_quiet_op;refine hK _ ?_;clear hK K)|(refine zE ?_;go_wp2_with (go_at_call 62;refine (has_c _ _ _ _ _ _ (hit.mono (zd (zd (Below.refl _ _))))).mono ?_;rintro e w1 ⟨rfl,rfl⟩);refine ⟨?_,?_⟩;focus (exact ⟨_,zi (by repeat (first|assumption|exact Below.refl _ _|refine zd ?_|refine zg ?_ _|refine zb ?_ (by assumption)))⟩)))
    refine jI ?_
    go_wp2
    ·have hh:zY (g.take k) (g[k]?.getD 0)=true:=by assumption
     have hE:=za (givenBad_tw (cells:=cells) (by omega) (by omega) hh)
     go_ret
     exact ⟨zD (by rw[hf.out,zS hn.out hlt (by rw[hE.out];omega),hE.out]),(hB1.trans (hbr.mono (by omega))).drew.drew⟩
    ·have hh:zY (g.take k) (g[k]?.getD 0)=false:=by assumption
     have hE:=za (givenBad_ok (cells:=cells) (by omega) (by omega) (.inr hh))
     go_roundw
     case rel=>exact ⟨k+1,by omega,by go_num,jj hn.out hE.out,hbr.drew.drew⟩
     case measure=>simp[intOf];omega
   ·have f3:decide (0<g[k]?.getD 0)=false:=by simpa using g3
    have hE:=za (givenBad_ok (cells:=cells) g1 g2 (.inl g3))
    go_wp2
    refine zk (fun w'=>∃u,w'=over (wr) u) [] [(0,0),(0,1),(0,2),(0,3),(0,4),(0,5),(0,6),(0,7),(0,8),(0,9),(0,10),(0,11),(0,12),(0,13),(0,14),(0,15),(0,16)] (by kernel_rfl) (by kernel_rfl) (by exact ⟨_,zi (by repeat (first|assumption|exact Below.refl _ _|refine zd ?_|refine zg ?_ _|refine zb ?_ (by assumption)))⟩) ?_
    dsimp only[zt,zG]
    repeat (first|(refine zu rfl (fun K hK=>?_);go_big_quiet_op;refine hK _ ?_;clear hK K)|(refine zp rfl rfl (fun K hK=>?_);go_big_quiet_op;refine hK _ ?_;clear hK K))
    refine jI ?_
    go_wp2
    refine zk (fun w'=>∃u,w'=over (wr) u) [] [(0,0),(0,1),(0,2),(0,3),(0,4),(0,5),(0,6),(0,7),(0,8),(0,9),(0,10),(0,11),(0,12),(0,13),(0,14),(0,15),(1,16),(0,17)] (by kernel_rfl) (by kernel_rfl) (by exact ⟨_,zi (by repeat (first|assumption|exact Below.refl _ _|refine zd ?_|refine zg ?_ _|refine zb ?_ (by assumption)))⟩) ?_
    dsimp only[zt,zG]
    repeat (first|(refine zu rfl (fun K hK=>?_);go_big_quiet_op;refine hK _ ?_;clear hK K)|(refine zp rfl rfl (fun K hK=>?_);go_big_quiet_op;refine hK _ ?_;clear hK K)|(refine zE ?_;go_wp2;refine ⟨?_,?_⟩;focus (exact ⟨_,zi (by repeat (first|assumption|exact Below.refl _ _|refine zd ?_|refine zg ?_ _|refine zb ?_ (by assumption)))⟩)))
    refine jI ?_
    go_wp2
    go_roundw
    case rel=>exact ⟨k+1,by omega,by go_num,jj hn.out hE.out,hbr.drew.drew⟩
    case measure=>simp[intOf];omega
  ·go_wp2
   go_ret
   have e:k=n':=by omega
   subst e
   exact ⟨zD (by rw[hf.out,ju hn.out]),hB1.trans (hbr.mono (by omega))⟩
end
section
open Go Go.RowKit
attribute [local go_sem] zv
theorem qk:(Tryz.prog.info? 3).map (fun i=>(i.zero,i.size,i.bytes))=some (some (.int .i64 0),1,8):=by kernel_rfl
theorem zI {w:World} {base base':Nat} {e:TypeId} {size:Nat} {v:Value} {n:Nat} {xs:List Value} (h:w.ownsRow base e size v n xs) (hb:base'≤base):w.ownsRow base' e size v n xs :=
 ⟨h.1,h.2.imp id fun ⟨g,cap,cur,a,b,r⟩=>⟨g,cap,cur,a,Nat.le_trans hb b,r⟩⟩
theorem IC.of_owns {w:World} {base:Nat} {a:Option Addr} {n c:Nat} {xs:List Int} {e:TypeId} (h:w.ownsRow base e 1 (.slice a n c) xs.length (xs.map (Value.int .i64))) (hs:xs.length≤17592186044416):IC w a n xs∧n≤c:=by
 obtain ⟨h1,h2⟩:=h
 rcases h2 with ⟨h2,h3⟩|⟨g,cap,cur,hv,hg,hh,hnc,hcm,hsz,htk⟩
 ·simp only[Value.slice.injEq] at h2
  obtain ⟨rfl,rfl,rfl⟩:=h2
  exact ⟨⟨⟨h3,by omega⟩,fun k hk=>absurd hk (by omega)⟩,Nat.le_refl _⟩
 ·simp only[Value.slice.injEq] at hv
  obtain ⟨rfl,rfl,rfl⟩:=hv
  refine ⟨⟨⟨rfl,hs⟩,fun k hk=>⟨g,0,rfl,(Array.getElem?_eq_some_iff.1 hh).1,?_⟩⟩,hnc⟩
  rw[cell_of_row w g (0+k) cur e (0,0) hh]
  have h4:(cur.toList.take (xs.length*1))[k]?=(xs.map (Value.int .i64))[k]?:=by rw[htk]
  rw[List.getElem?_take,if_pos (by omega),List.getElem?_map] at h4
  rw[Nat.zero_add]
  rw[List.getElem?_eq_getElem hk] at h4 ⊢
  simpa using h4
theorem ropen_c (v1:Value) (cells sum:Int) (a':Option Addr) (n' c':Nat) (g:List Int) (w:World) (h':IC w a' n' g) :
  Calls Tryz.prog 23 #[.agg #[.int .i64 cells,v1,.int .i64 sum,.slice a' n' c']] w fun e w'=>∃v,e = .returned v∧w'.ownsRow w.heap.size 3 1 v (zj g).length ((zj g).map (Value.int .i64))∧Below w.heap.size w w':=by
 have hm':=h'.small
 obtain ⟨i0,hi,hz0,hz1,hz2⟩:=info_parts qk
 go_enter Tryz.func23,Tryz.ntmps23
 go_wp2
 have hsz:w.heap.size<(w.alloc (.cells #[.int .i64 cells,v1,.int .i64 sum,.slice a' n' c'] 30)).heap.size:=by simp
 have hB:Below w.heap.size w (w.alloc (.cells #[.int .i64 cells,v1,.int .i64 sum,.slice a' n' c'] 30)):=(Below.refl _ _).alloc (Nat.le_refl _) _
 have x0:(w.alloc (.cells #[.int .i64 cells,v1,.int .i64 sum,.slice a' n' c'] 30)).cell? ⟨w.heap.size,0,none⟩=some (.int .i64 cells):=(zq w #[.int .i64 cells,v1,.int .i64 sum,.slice a' n' c'] 30 0).trans rfl
 have x1:(w.alloc (.cells #[.int .i64 cells,v1,.int .i64 sum,.slice a' n' c'] 30)).cell? ⟨w.heap.size,1,none⟩=some (v1):=(zq w #[.int .i64 cells,v1,.int .i64 sum,.slice a' n' c'] 30 1).trans rfl
 have x2:(w.alloc (.cells #[.int .i64 cells,v1,.int .i64 sum,.slice a' n' c'] 30)).cell? ⟨w.heap.size,2,none⟩=some (.int .i64 sum):=(zq w #[.int .i64 cells,v1,.int .i64 sum,.slice a' n' c'] 30 2).trans rfl
 have x3:(w.alloc (.cells #[.int .i64 cells,v1,.int .i64 sum,.slice a' n' c'] 30)).cell? ⟨w.heap.size,3,none⟩=some (.slice a' n' c'):=(zq w #[.int .i64 cells,v1,.int .i64 sum,.slice a' n' c'] 30 3).trans rfl
 generalize (w.alloc (.cells #[.int .i64 cells,v1,.int .i64 sum,.slice a' n' c'] 30))=W0 at hsz hB x0 x1 x2 x3 ⊢
 have h0:=h'.mono hB
 have X3:=za x3
 clear x0 x1 x2 x3
 go_loopw [3,4] (fun v i wr=>∃k:Nat,k≤n'∧i = .int .i64 k∧wr.ownsRow W0.heap.size 3 1 v (jM g k).length ((jM g k).map (Value.int .i64))∧Below W0.heap.size W0 wr) (fun _ i _=>n' - (intOf i).toNat)
 case atStart=>exact ⟨0,by omega,rfl,World.ownsRow_nil _ _ _ _,Below.refl _ _⟩
 case round =>
  obtain ⟨k,hk,rfl,hown,hbr⟩:=hrel
  have z3:=((zF hbr).1 _ _ hsz).trans X3.out
  by_cases hlt:k<n'
  ·obtain ⟨b,off,rfl,hb,hc⟩:=(h0.mono hbr).2 k hlt
   have hlen:=jA g k
   go_wp2_with (at_builtin;refine wpList_append_own _ rfl _ _ 25 rfl W0.heap.size 3 i0 (.int .i64 0) 1 8 Tryz.underlying25 hi hz0 hz1 hz2 rfl (by decide) _ _ _ rfl (hown.alloc _) ⟨wr.heap.size,0,none⟩ 1 1 [.int .i64 k] rfl rfl (cell_one_new _ _ _) (by simp[Value.oneCell']) (by unfold maxLen;omega) (by omega) (by have:=hbr.size;simp;omega) ?_)
   ·intro v' w1 hown' hgrow _
    have he:(g[k]?.getD 0==0)=true:=by assumption
    have hb1:Below W0.heap.size W0 w1:=(hbr.alloc hbr.size _).grown hgrow (by simp;have:=hbr.size;omega) (fun j e=>(hown.lt j e).1)
    have hown2:w1.ownsRow W0.heap.size 3 1 v' (jM g (k+1)).length ((jM g (k+1)).map (Value.int .i64)):=by
     rw[openTo_hit he];simpa using hown'
    clear hown' hgrow hown
    go_wp2
    go_roundw
    case rel=>exact ⟨k+1,by omega,by go_num,hown2,hb1⟩
    case measure=>simp[intOf];omega
   ·have he:(g[k]?.getD 0==0)=false:=by assumption
    go_roundw
    case rel=>exact ⟨k+1,by omega,by go_num,by rw[openTo_miss he];exact hown,hbr⟩
    case measure=>simp[intOf];omega
  ·have e:k=n':=by omega
   subst e
   go_wp2
   go_ret
   refine ⟨_,rfl,?_,hB.trans (hbr.mono (by omega))⟩
   rw[zj,h'.len]
   exact zI hown (by omega)
end
section
open Go Go.RowKit
attribute [local go_sem] zv
def ze (M q:Nat):Nat:=M / 2 ^ (64*q) % 18446744073709551616
theorem jp (M q:Nat):ze M q<18446744073709551616:=Nat.mod_lt _ (by decide)
theorem jf (M q r:Nat) (hr:r<64):(ze M q).testBit r=M.testBit (64*q+r):=by
 unfold ze
 rw[show (18446744073709551616:Nat)=2 ^ 64 from by decide,Nat.testBit_mod_two_pow,Nat.testBit_div_two_pow]
 simp[hr,Nat.add_comm]
theorem word_or (M q q' r:Nat) (hr:r<64):ze (M ||| 2 ^ (64*q+r)) q'=if q'=q then ze M q' ||| 2 ^ r else ze M q':=by
 apply Nat.eq_of_testBit_eq
 intro i
 by_cases hi:i<64
 ·rw[jf _ _ _ hi,Nat.testBit_or,Nat.testBit_two_pow]
  by_cases e:q'=q
  ·subst e
   rw[if_pos rfl,Nat.testBit_or,jf _ _ _ hi,Nat.testBit_two_pow]
   congr 1
   by_cases e2:r=i
   ·simp[e2]
   ·simp[e2]
  ·rw[if_neg e,jf _ _ _ hi]
   have:¬64*q+r=64*q'+i:=by omega
   simp[this]
 ·have h1:∀n:Nat,n<18446744073709551616→n.testBit i=false:=fun n hn=>Nat.testBit_lt_two_pow (Nat.lt_of_lt_of_le hn (by rw[show (18446744073709551616:Nat)=2 ^ 64 from by decide];exact Nat.pow_le_pow_right (by decide) (by omega)))
  rw[h1 _ (jp _ _)]
  split
  ·rw[Nat.testBit_or,h1 _ (jp _ _),Nat.testBit_two_pow]
   have:¬r=i:=by omega
   simp[this]
  ·rw[h1 _ (jp _ _)]
def qE (M k:Nat):Nat:=if M.testBit k then M ^^^ 2 ^ k else M
theorem testBit_clear (M k i:Nat):(qE M k).testBit i=(M.testBit i&&decide (i≠k)):=by
 unfold qE
 split
 ·rename_i h
  rw[Nat.testBit_xor,Nat.testBit_two_pow]
  by_cases ei:k=i
  ·subst ei;simp[h]
  ·have:¬i=k:=fun e=>ei e.symm
   simp[ei,this]
 ·rename_i h
  by_cases ei:i=k
  ·subst ei;simpa using h
  ·simp[ei]
theorem word_clear (M q q' r:Nat) (hr:r<64):ze (qE M (64*q+r)) q'=if q'=q then ze M q' &&& (18446744073709551615 - 2 ^ r) else ze M q':=by
 apply Nat.eq_of_testBit_eq
 intro i
 have hmask:∀i,i<64→(18446744073709551615 - 2 ^ r).testBit i=decide (i≠r):=by
  intro i hi
  have e64:(2:Nat) ^ 64=18446744073709551616:=by decide
  rw[show 18446744073709551615 - 2 ^ r=2 ^ 64 - (2 ^ r+1) from by omega]
  rw[Nat.testBit_two_pow_sub_succ (Nat.pow_lt_pow_right (by decide) hr),Nat.testBit_two_pow]
  by_cases e:r=i
  ·subst e;simp
  ·have:¬i=r:=fun h=>e h.symm
   simp[hi,e,this]
 by_cases hi:i<64
 ·rw[jf _ _ _ hi,testBit_clear]
  by_cases e:q'=q
  ·subst e
   rw[if_pos rfl,Nat.testBit_and,jf _ _ _ hi,hmask i hi]
   congr 1
   simp
  ·rw[if_neg e,jf _ _ _ hi]
   have:64*q'+i≠64*q+r:=by omega
   simp[this]
 ·have h1:∀n:Nat,n<18446744073709551616→n.testBit i=false:=fun n hn=>Nat.testBit_lt_two_pow (Nat.lt_of_lt_of_le hn (by rw[show (18446744073709551616:Nat)=2 ^ 64 from by decide];exact Nat.pow_le_pow_right (by decide) (by omega)))
  rw[h1 _ (jp _ _)]
  split
  ·rw[Nat.testBit_and,h1 _ (jp _ _)];simp
  ·rw[h1 _ (jp _ _)]
end
section
open Go Go.RowKit
attribute [local go_sem] zv
def SetC (w:World) (b off M:Nat):Prop:=∀q,q<4→w.cell? ⟨b,off+q,none⟩=some (.int .u64 ((ze M q:Nat):Int))
def PutW (w w':World) (b off M M':Nat):Prop :=
 ∃q,q<4∧w'=(w.setCell ⟨b,off+q,none⟩ (.int .u64 ((ze M' q:Nat):Int))).drew∧∀q',q'≠q→ze M' q'=ze M q'
theorem bit_split {x:Int} (h1:1≤x):((x - 1) / 64).toNat=(x.toNat - 1) / 64∧((x - 1) % 64).toNat=(x.toNat - 1) % 64∧x.toNat - 1=64*((x.toNat - 1) / 64)+(x.toNat - 1) % 64:=by
 refine ⟨by omega,by omega,by omega⟩
theorem and_one_bit (v r:Nat) (hv:v<18446744073709551616):(bits BinOp.and IntKind.u64 ((v:Int) / 2 ^ r) 1==1)=v.testBit r:=by
 have e:((v:Int) / 2 ^ r)=((v / 2 ^ r:Nat):Int):=by simp
 have hlt:v / 2 ^ r<18446744073709551616:=Nat.lt_of_le_of_lt (Nat.div_le_self _ _) hv
 rw[e,show (1:Int)=((1:Nat):Int) from rfl,u64_and_nat _ _ hlt (by decide)]
 rw[Nat.testBit_eq_decide_div_mod_eq,Nat.and_one_is_mod]
 have:v / 2 ^ r % 2=0∨v / 2 ^ r % 2=1:=by omega
 rcases this with h|h <;> simp[h]
theorem or_bit (v r:Nat) (hv:v<18446744073709551616) (hr:r<64):bits BinOp.or IntKind.u64 (v:Int) (IntKind.u64.wrap (2 ^ r))=((v ||| 2 ^ r:Nat):Int):=by
 have h2:2 ^ r<18446744073709551616:=by
  rw[show (18446744073709551616:Nat)=2 ^ 64 from by decide];exact Nat.pow_lt_pow_right (by decide) hr
 have e:IntKind.u64.wrap (2 ^ r)=((2 ^ r:Nat):Int):=by
  rw[IntKind.wrap_u64]
  have:((2:Int) ^ r)=((2 ^ r:Nat):Int):=by simp
  rw[this]
  generalize 2 ^ r=m at h2 ⊢
  omega
 rw[e,u64_or_nat _ _ hv h2]
theorem andNot_bit (v r:Nat) (hv:v<18446744073709551616) (hr:r<64):bits BinOp.andNot IntKind.u64 (v:Int) (IntKind.u64.wrap (2 ^ r))=((v &&& (18446744073709551615 - 2 ^ r):Nat):Int):=by
 have h2:2 ^ r<18446744073709551616:=by
  rw[show (18446744073709551616:Nat)=2 ^ 64 from by decide];exact Nat.pow_lt_pow_right (by decide) hr
 have e:IntKind.u64.wrap (2 ^ r)=((2 ^ r:Nat):Int):=by
  rw[IntKind.wrap_u64]
  have:((2:Int) ^ r)=((2 ^ r:Nat):Int):=by simp
  rw[this]
  generalize 2 ^ r=m at h2 ⊢
  omega
 rw[e,u64_andNot_nat _ _ hv h2]
theorem shas_c (b off M:Nat) (x:Int) (w:World) (h:SetC w b off M) (hx1:1≤x) (hx2:x≤256) :
  Calls Tryz.prog 147 #[.pointer (some ⟨b,off,none⟩),.int .i64 x] w fun e w'=>e = .returned (.bool (M.testBit (x.toNat - 1)))∧w=w':=by
 have hs:=bit_split hx1
 have hc0:=h ((x.toNat - 1) / 64) (by omega)
 have hc:w.cell? ⟨b,off+((x - 1) / 64).toNat,none⟩=some (.int .u64 ((ze M ((x.toNat - 1) / 64):Nat):Int)):=by rw[hs.1];exact hc0
 clear hc0
 have hE:Hid ((bits BinOp.and IntKind.u64 (((ze M ((x.toNat - 1) / 64):Nat):Int) / 2 ^ ((x - 1) % 64).toNat) 1==1)=M.testBit (x.toNat - 1)):=by
  unfold Hid
  rw[and_one_bit _ _ (jp _ _),hs.2.1,jf _ _ _ (Nat.mod_lt _ (by decide)),← hs.2.2]
 clear hs
 generalize ze M ((x.toNat - 1) / 64)=v at hc hE
 have h1:(0:Int)≤x - 1:=by omega
 have h2:(x - 1) / 64<4:=by omega
 have h2':0≤(x - 1) / 64:=by omega
 have h3:(x - 1) % 64<64:=by omega
 have h3':0≤(x - 1) % 64:=by omega
 go_enter Tryz.func147,Tryz.ntmps147
 go_wp2
 go_ret
 exact ⟨zN hE.out,rfl⟩
theorem sput_c (b off M:Nat) (x:Int) (w:World) (h:SetC w b off M) (hx1:1≤x) (hx2:x≤256) (hb:b<w.heap.size) (hfz:∀q,q<4→w.frozen? ⟨b,off+q,none⟩=false) :
  Calls Tryz.prog 146 #[.pointer (some ⟨b,off,none⟩),.int .i64 x] w fun e w'=>e = .returned (.tuple #[])∧PutW w w' b off M (M ||| 2 ^ (x.toNat - 1)):=by
 have hs:=bit_split hx1
 have hc0:=h ((x.toNat - 1) / 64) (by omega)
 have hc:w.cell? ⟨b,off+((x - 1) / 64).toNat,none⟩=some (.int .u64 ((ze M ((x.toNat - 1) / 64):Nat):Int)):=by rw[hs.1];exact hc0
 have hz:w.frozen? ⟨b,off+((x - 1) / 64).toNat,none⟩=false:=by rw[hs.1];exact hfz _ (by omega)
 clear hc0
 have hr:(x.toNat - 1) % 64<64:=Nat.mod_lt _ (by decide)
 have hE:Hid (bits BinOp.or IntKind.u64 ((ze M ((x.toNat - 1) / 64):Nat):Int) (IntKind.u64.wrap (2 ^ ((x - 1) % 64).toNat))=((ze (M ||| 2 ^ (x.toNat - 1)) ((x.toNat - 1) / 64):Nat):Int)):=by
  unfold Hid
  rw[hs.2.1,or_bit _ _ (jp _ _) hr]
  conv=>rhs;rw[hs.2.2,word_or _ _ _ _ hr,if_pos (by omega)]
  congr 3
  omega
 have hO:Hid (∀q',q'≠(x.toNat - 1) / 64→ze (M ||| 2 ^ (x.toNat - 1)) q'=ze M q'):=by
  intro q' hq
  rw[hs.2.2,word_or _ _ _ _ hr,if_neg (by omega)]
 have hA:=za hs.1
 clear hs hr
 have hq:(x.toNat - 1) / 64<4:=by omega
 generalize (x.toNat - 1) / 64=qq at *
 generalize ze M qq=v at hc hE
 have h1:(0:Int)≤x - 1:=by omega
 have h2:(x - 1) / 64<4:=by omega
 have h2':0≤(x - 1) / 64:=by omega
 have h3:(x - 1) % 64<64:=by omega
 have h3':0≤(x - 1) % 64:=by omega
 clear h hfz
 go_enter Tryz.func146,Tryz.ntmps146
 go_wp2
 refine zk (fun w'=>∃u,w'=over (w) u) [14] [(0,0),(0,1),(0,2),(0,3),(0,4),(0,5),(0,6),(0,7),(0,8),(0,9),(0,10),(0,11),(0,12),(0,13),(2,14)] (by kernel_rfl) (by kernel_rfl) (by exact ⟨_,zi (by repeat (first|assumption|exact Below.refl _ _|refine zd ?_|refine zg ?_ _|refine zb ?_ (by assumption)))⟩) ?_
 dsimp only[zt,zG]
 repeat (first|(refine zu rfl (fun K hK=>?_);go_big_quiet_op;refine hK _ ?_;clear hK K)|(refine zp rfl rfl (fun K hK=>?_);go_big_quiet_op;refine hK _ ?_;clear hK K))
 refine zA _ _ _ rfl ?_
 dsimp only[List.map]
 go_wp2
 refine NoPanic.normal ?_
 go_wp2
 go_end0
 exact ⟨rfl,qq,hq,by rw[hE.out,hA.out],hO.out⟩
theorem sdrop_c (b off M:Nat) (x:Int) (w:World) (h:SetC w b off M) (hx1:1≤x) (hx2:x≤256) (hb:b<w.heap.size) (hfz:∀q,q<4→w.frozen? ⟨b,off+q,none⟩=false) :
  Calls Tryz.prog 160 #[.pointer (some ⟨b,off,none⟩),.int .i64 x] w fun e w'=>e = .returned (.tuple #[])∧PutW w w' b off M (qE M (x.toNat - 1)):=by
 have hs:=bit_split hx1
 have hc0:=h ((x.toNat - 1) / 64) (by omega)
 have hc:w.cell? ⟨b,off+((x - 1) / 64).toNat,none⟩=some (.int .u64 ((ze M ((x.toNat - 1) / 64):Nat):Int)):=by rw[hs.1];exact hc0
 have hz:w.frozen? ⟨b,off+((x - 1) / 64).toNat,none⟩=false:=by rw[hs.1];exact hfz _ (by omega)
 clear hc0
 have hr:(x.toNat - 1) % 64<64:=Nat.mod_lt _ (by decide)
 have hE:Hid (bits BinOp.andNot IntKind.u64 ((ze M ((x.toNat - 1) / 64):Nat):Int) (IntKind.u64.wrap (2 ^ ((x - 1) % 64).toNat))=((ze (qE M (x.toNat - 1)) ((x.toNat - 1) / 64):Nat):Int)):=by
  unfold Hid
  rw[hs.2.1,andNot_bit _ _ (jp _ _) hr]
  conv=>rhs;rw[hs.2.2,word_clear _ _ _ _ hr,if_pos (by omega)]
  congr 3
  omega
 have hO:Hid (∀q',q'≠(x.toNat - 1) / 64→ze (qE M (x.toNat - 1)) q'=ze M q'):=by
  intro q' hq
  rw[hs.2.2,word_clear _ _ _ _ hr,if_neg (by omega)]
 have hA:=za hs.1
 clear hs hr
 have hq:(x.toNat - 1) / 64<4:=by omega
 generalize (x.toNat - 1) / 64=qq at *
 generalize ze M qq=v at hc hE
 have h1:(0:Int)≤x - 1:=by omega
 have h2:(x - 1) / 64<4:=by omega
 have h2':0≤(x - 1) / 64:=by omega
 have h3:(x - 1) % 64<64:=by omega
 have h3':0≤(x - 1) % 64:=by omega
 clear h hfz
 go_enter Tryz.func160,Tryz.ntmps160
 go_wp2
 refine zk (fun w'=>∃u,w'=over (w) u) [14] [(0,0),(0,1),(0,2),(0,3),(0,4),(0,5),(0,6),(0,7),(0,8),(0,9),(0,10),(0,11),(0,12),(0,13),(2,14)] (by kernel_rfl) (by kernel_rfl) (by exact ⟨_,zi (by repeat (first|assumption|exact Below.refl _ _|refine zd ?_|refine zg ?_ _|refine zb ?_ (by assumption)))⟩) ?_
 dsimp only[zt,zG]
 repeat (first|(refine zu rfl (fun K hK=>?_);go_big_quiet_op;refine hK _ ?_;clear hK K)|(refine zp rfl rfl (fun K hK=>?_);go_big_quiet_op;refine hK _ ?_;clear hK K))
 refine zA _ _ _ rfl ?_
 dsimp only[List.map]
 go_wp2
 refine NoPanic.normal ?_
 go_wp2
 go_end0
 exact ⟨rfl,qq,hq,by rw[hE.out,hA.out],hO.out⟩
end
section
open Go Go.RowKit
attribute [local go_sem] zv
def zJ (M x:Nat):Nat:=match (List.range 257).find? (fun j=>decide (x<j)&&M.testBit (j - 1)) with|some j=>j|none=>0
theorem aboveM_hit {M x k:Nat} (h:∀j,x<j→j<k→M.testBit (j - 1)=false) (hx:x<k) (hk:k≤256) (hb:M.testBit (k - 1)=true):zJ M x=k:=by
 have:(List.range 257).find? (fun j=>decide (x<j)&&M.testBit (j - 1))=some k:=by
  rw[List.find?_range_eq_some]
  refine ⟨by simp[hx,hb],by simp;omega,fun j hj=>?_⟩
  by_cases e:x<j
  ·simp[e,h j e hj]
  ·simp[e]
 simp[zJ,this]
theorem aboveM_none {M x:Nat} (h:∀j,x<j→j≤256→M.testBit (j - 1)=false):zJ M x=0:=by
 have:(List.range 257).find? (fun j=>decide (x<j)&&M.testBit (j - 1))=none:=by
  rw[List.find?_range_eq_none]
  intro j hj
  by_cases e:x<j
  ·simp[e,h j e (by omega)]
  ·simp[e]
 simp[zJ,this]
theorem word_zero {M q:Nat} (h:ze M q=0) (j:Nat) (h1:64*q<j) (h2:j≤64*q+64):M.testBit (j - 1)=false:=by
 have:=jf M q (j - 1 - 64*q) (by omega)
 rw[h,show 64*q+(j - 1 - 64*q)=j - 1 from by omega] at this
 simpa using this.symm
theorem qR (b off M x:Nat) (w:World) (h:SetC w b off M) (hx:x≤256) :
  Calls Tryz.prog 162 #[.pointer (some ⟨b,off,none⟩),.int .i64 x] w fun e w'=>e = .returned (.int .i64 (zJ M x:Nat))∧w=w':=by
 go_enter Tryz.func162,Tryz.ntmps162
 go_wp2
 go_loop [5] (fun i=>∃k:Nat,x<k∧k≤320∧i = .int .i64 k∧Hid (∀j,x<j→j<k→M.testBit (j - 1)=false)) (fun i=>400 - (intOf i).toNat)
 case atStart=>exact ⟨x+1,by omega,by omega,by go_num,fun j h1 h2=>absurd h2 (by omega)⟩
 case round =>
  obtain ⟨k,hxk,hk,rfl,hn⟩:=hrel
  by_cases hle:k≤256
  ·by_cases hm:k % 64=1
   ·have hm':((k:Int) % 64==1)=true:=by simp;omega
    have hq:((k:Int) - 1) / 64=((k / 64:Nat):Int):=by omega
    have hc:=h (k / 64) (by omega)
    have hq4:((k / 64:Nat):Int)<4:=by omega
    by_cases hz:ze M (k / 64)=0
    ·have hW:=za (word_zero (M:=M) hz)
     have hz':(((ze M (k / 64):Nat):Int)==0)=true:=by simp[hz]
     have hm2:=za hm
     clear hz hm
     go_wp2
     go_round
     case rel =>
      refine ⟨k+64,by omega,by omega,by go_num,fun j h1 h2=>?_⟩
      by_cases e:j<k
      ·exact hn.out j h1 e
      ·have:=hm2.out
       exact hW.out j (by omega) (by omega)
     case measure=>simp[intOf];omega
    ·have hz':(((ze M (k / 64):Nat):Int)==0)=false:=by simpa using hz
     have hm2:=za hm
     clear hz hm
     go_wp2_with (go_at_call 147;refine (shas_c _ _ _ _ _ h (by omega) (by omega)).mono ?_;rintro e w1 ⟨rfl,rfl⟩)
     ·have hb:M.testBit ((k:Int).toNat - 1)=true:=by assumption
      rw[Int.toNat_natCast] at hb
      go_ret
      exact ⟨zD (by rw[aboveM_hit hn.out hxk hle hb]),rfl⟩
     ·have hb:M.testBit ((k:Int).toNat - 1)=false:=by assumption
      rw[Int.toNat_natCast] at hb
      go_round
      case rel =>
       refine ⟨k+1,by omega,by omega,by go_num,fun j h1 h2=>?_⟩
       by_cases e:j=k
       ·rw[e];exact hb
       ·exact hn.out j h1 (by omega)
      case measure=>simp[intOf];omega
   ·have hm':((k:Int) % 64==1)=false:=by simp;omega
    have hm2:=za hm
    clear hm
    go_wp2_with (go_at_call 147;refine (shas_c _ _ _ _ _ h (by omega) (by omega)).mono ?_;rintro e w1 ⟨rfl,rfl⟩)
    ·have hb:M.testBit ((k:Int).toNat - 1)=true:=by assumption
     rw[Int.toNat_natCast] at hb
     go_ret
     exact ⟨zD (by rw[aboveM_hit hn.out hxk hle hb]),rfl⟩
    ·have hb:M.testBit ((k:Int).toNat - 1)=false:=by assumption
     rw[Int.toNat_natCast] at hb
     go_round
     case rel =>
      refine ⟨k+1,by omega,by omega,by go_num,fun j h1 h2=>?_⟩
      by_cases e:j=k
      ·rw[e];exact hb
      ·exact hn.out j h1 (by omega)
     case measure=>simp[intOf];omega
  ·go_wp2
   go_ret
   exact ⟨zD (by rw[aboveM_none (fun j h1 h2=>hn.out j h1 (by omega))];rfl),rfl⟩
def jm (l f:List Int):Int:=(l.map fun c=>f[c.toNat]?.getD 0).foldl (·+·) 0
def sumTo (l f:List Int) (k:Nat):Int:=jm (l.take k) f
theorem sumTo_succ {l f:List Int} {k:Nat} (h:k<l.length):sumTo l f (k+1)=sumTo l f k+f[(l[k]?.getD 0).toNat]?.getD 0:=by
 unfold sumTo jm
 rw[zP l 0 k h]
 simp
theorem sumTo_bd {l f:List Int} {B:Int} (h0:∀c:Nat,0≤f[c]?.getD 0∧f[c]?.getD 0≤B) (k:Nat) (hk:k≤l.length):0≤sumTo l f k∧sumTo l f k≤k*B:=by
 induction k with
 | zero=>simp[sumTo,jm]
 | succ k ih =>
  have:=ih (by omega)
  have h1:=h0 (l[k]?.getD 0).toNat
  rw[sumTo_succ (by omega)]
  have e:((k+1:Nat):Int)*B=k*B+B:=by rw[Int.natCast_add];simp[Int.add_mul]
  omega
theorem sum_c (a a':Option Addr) (n n' c c':Nat) (l f:List Int) (w:World) (h:IC w a n l) (h':IC w a' n' f) (hn:n≤1000)
  (hl:∀k,k<n→0≤l[k]?.getD 0∧l[k]?.getD 0<(n':Int)) (hf:∀c:Nat,0≤f[c]?.getD 0∧f[c]?.getD 0≤1000000000) :
  Calls Tryz.prog 145 #[.slice a n c,.slice a' n' c'] w fun e w'=>e = .returned (.int .i64 (jm l f))∧w=w':=by
 have HF:=za hf
 have HL:=za hl
 clear hf hl
 have hm':=h'.small
 go_enter Tryz.func145,Tryz.ntmps145
 go_wp2
 go_loop [5,7,10] (fun s _ i=>∃k:Nat,k≤n∧i = .int .i64 k∧s = .int .i64 (sumTo l f k)) (fun _ _ i=>n - (intOf i).toNat)
 case atStart=>exact ⟨0,by omega,rfl,rfl⟩
 case round =>
  obtain ⟨k,hk,rfl,rfl⟩:=hrel
  have hb:=sumTo_bd HF.out k (by rw[h.len];exact hk)
  have hb2:sumTo l f k≤1000000000000:=by
   have:(k:Int)*1000000000≤1000*1000000000:=Int.mul_le_mul_of_nonneg_right (by omega) (by omega)
   omega
  have hb1:=hb.1
  clear hb
  by_cases hlt:k<n
  ·obtain ⟨b,off,rfl,hbb,hc⟩:=h.2 k hlt
   have hr:=HL.out k hlt
   obtain ⟨x,hx⟩:∃x:Nat,l[k]?.getD 0=(x:Int):=⟨(l[k]?.getD 0).toNat,by omega⟩
   rw[hx] at hr hc
   have hS:=za (sumTo_succ (f:=f) (show k<l.length by rw[h.len];exact hlt))
   rw[hx] at hS
   clear hx
   obtain ⟨b',off',rfl,hbb',hc'⟩:=h'.2 x (by omega)
   have hfx:=HF.out x
   have hr2:=hr.2
   have hr3:x<n':=by omega
   have hfx1:=hfx.1
   have hfx2:=hfx.2
   clear hr hfx
   go_wp2
   go_round
   case rel=>exact ⟨k+1,by omega,by go_num,by rw[hS.out];simp⟩
   case measure=>simp[intOf];omega
  ·go_wp2
   go_ret
   have e:k=n:=by omega
   subst e
   refine ⟨zD ?_,rfl⟩
   unfold sumTo
   rw[List.take_of_length_le (by rw[h.len];omega)]
end
section
open Go Go.RowKit
attribute [local go_sem] zv
def idxP (p:Nat→Bool) (n:Nat):Int:=match (List.range n).find? p with|some i=>(i:Int)|none => -1
def qh (p:Nat→Bool) (n:Nat):Bool:=(List.range n).any p
theorem idxP_hit {p:Nat→Bool} {n k:Nat} (h:∀j,j<k→p j=false) (hk:k<n) (hp:p k=true):idxP p n=k:=by
 have:(List.range n).find? p=some k:=by
  rw[List.find?_range_eq_some]
  exact ⟨hp,by simpa using hk,fun j hj=>by simp[h j hj]⟩
 simp[idxP,this]
theorem idxP_none {p:Nat→Bool} {n:Nat} (h:∀j,j<n→p j=false):idxP p n = -1:=by
 have:(List.range n).find? p=none:=by
  rw[List.find?_range_eq_none]
  exact fun j hj=>by simp[h j hj]
 simp[idxP,this]
theorem idxP_ge {p:Nat→Bool} {n:Nat}:decide (0≤idxP p n)=qh p n:=by
 unfold idxP qh
 cases h:(List.range n).find? p with
 | none =>
  have:(List.range n).any p=false:=by
   rw[List.any_eq_false]
   rw[List.find?_eq_none] at h
   exact h
  simp[this]
 | some i =>
  have:(List.range n).any p=true:=List.any_eq_true.2 ⟨i,List.mem_of_find?_eq_some h,List.find?_some h⟩
  simp[this]
theorem upB_snoc {f:Nat→Bool} {k:Nat} (h:∀j,j<k→f j=false) (hk:f k=false):∀j,j<k+1→f j=false:=by
 intro j hj
 by_cases e:j=k
 ·rw[e];exact hk
 ·exact h j (by omega)
theorem index_c (a:Option Addr) (n c:Nat) (xs:List Int) (x:Int) (w:World) (h:IC w a n xs) :
  Calls Tryz.prog 197 #[.slice a n c,.int .i64 x] w fun e w'=>e = .returned (.int .i64 (idxP (fun k=>x==xs[k]?.getD 0) n))∧w=w':=by
 have hm:=h.small
 go_enter Tryz.func197,Tryz.ntmps197
 go_wp2
 go_loop [5,8] (fun _ i=>∃k:Nat,k≤n∧i = .int .i64 k∧Hid (∀j,j<k→(x==xs[j]?.getD 0)=false)) (fun _ i=>n - (intOf i).toNat)
 case atStart=>exact ⟨0,by omega,rfl,fun j hj=>absurd hj (by omega)⟩
 case round =>
  obtain ⟨k,hk,rfl,hn⟩:=hrel
  by_cases hlt:k<n
  ·obtain ⟨b,off,rfl,hb,hc⟩:=h.2 k hlt
   go_wp2
   ·have he:(x==xs[k]?.getD 0)=true:=by assumption
    go_ret
    exact ⟨zD (idxP_hit hn.out hlt he).symm,rfl⟩
   ·have he:(x==xs[k]?.getD 0)=false:=by assumption
    go_round
    case rel=>exact ⟨k+1,by omega,by go_num,upB_snoc (f:=fun j=>x==xs[j]?.getD 0) hn.out he⟩
    case measure=>simp[intOf];omega
  ·have e:k=n:=by omega
   subst e
   go_wp2
   go_ret
   exact ⟨zD (idxP_none hn.out).symm,rfl⟩
theorem anyP_has (xs:List Int) (x:Int):qh (fun k=>x==xs[k]?.getD 0) xs.length=zY xs x:=by
 rw[Bool.eq_iff_iff]
 simp only[qh,zY,List.any_eq_true,List.mem_range,beq_iff_eq,List.contains_iff_mem]
 constructor
 ·rintro ⟨k,hk,e⟩
  rw[e,List.getElem?_eq_getElem hk]
  simp
 ·intro hm
  obtain ⟨k,hk,e⟩:=List.getElem_of_mem hm
  exact ⟨k,hk,by rw[List.getElem?_eq_getElem hk];simp[e]⟩
theorem jw (a:Option Addr) (n c:Nat) (xs:List Int) (x:Int) (w:World) (h:IC w a n xs) :
  Calls Tryz.prog 134 #[.slice a n c,.int .i64 x] w fun e w'=>e = .returned (.bool (zY xs x))∧w=w':=by
 have hE:Hid (decide (0≤idxP (fun k=>x==xs[k]?.getD 0) n)=zY xs x):=by
  unfold Hid;rw[idxP_ge,← h.len,anyP_has]
 have hI:=index_c a n c xs x w h
 generalize idxP (fun k=>x==xs[k]?.getD 0) n=r at hE hI
 have HI:=za hI
 clear hI
 go_enter Tryz.func134,Tryz.ntmps134
 go_wp2_with (go_at_call 197;refine HI.out.mono ?_;rintro e w1 ⟨rfl,rfl⟩)
 go_ret
 exact ⟨zN hE.out,rfl⟩
theorem equal_c (a a':Option Addr) (n n' c c':Nat) (xs ys:List Int) (w:World) (h:IC w a n xs) (h':IC w a' n' ys) :
  Calls Tryz.prog 88 #[.slice a n c,.slice a' n' c'] w fun e w'=>e = .returned (.bool (qH xs ys))∧Below w.heap.size w w':=by
 have hm:=h.small
 by_cases hl:n=n'
 ·subst hl
  go_enter Tryz.func88,Tryz.ntmps88
  go_wp2
  go_loopw [5,13] (fun _ i wr=>∃k:Nat,k≤n∧i = .int .i64 k∧Hid (xs.take k=ys.take k)∧Below w.heap.size w wr) (fun _ i _=>n - (intOf i).toNat)
  case atStart=>exact ⟨0,by omega,rfl,by simp[Hid],Below.refl _ _⟩
  case round =>
   obtain ⟨k,hk,rfl,hn,hbr⟩:=hrel
   by_cases hlt:k<n
   ·obtain ⟨b,off,rfl,hb,hc⟩:=(h.mono hbr).2 k hlt
    obtain ⟨b',off',rfl,hb',hc'⟩:=(h'.mono hbr).2 k hlt
    have hli:(k:Int)<(n:Int):=by omega
    have hl0:(0:Int)≤(k:Int):=by omega
    go_wp2
    refine zk (fun w'=>∃u,w'=over (wr) u) [] [(0,0),(0,1),(0,2),(0,3),(0,4),(0,5),(0,6),(0,7),(0,8)] (by kernel_rfl) (by kernel_rfl) (by exact ⟨_,zi (by repeat (first|assumption|exact Below.refl _ _|refine zd ?_|refine zg ?_ _|refine zb ?_ (by assumption)))⟩) ?_
    dsimp only[zt,zG]
    repeat (first|(refine zu rfl (fun K hK=>?_);go_big_quiet_op;refine hK _ ?_;clear hK K)|(refine zp rfl rfl (fun K hK=>?_);go_big_quiet_op;refine hK _ ?_;clear hK K))
    refine jI ?_
    by_cases he:xs[k]?.getD 0=ys[k]?.getD 0
    ·have he':(xs[k]?.getD 0 != ys[k]?.getD 0)=false:=by simpa using he
     have he2:=za he;clear he
     go_wp2
     go_roundw
     case rel =>
      refine ⟨k+1,by omega,by go_num,?_,hbr.drew⟩
      unfold Hid
      rw[zP xs 0 k (by rw[h.len];exact hlt),zP ys 0 k (by rw[h'.len];exact hlt),hn.out,he2.out]
     case measure=>simp[intOf];omega
    ·have he':(xs[k]?.getD 0 != ys[k]?.getD 0)=true:=by simpa using he
     go_wp2
     go_ret
     exact ⟨zN (sameB_ne he).symm,hbr.drew⟩
   ·go_wp2
    go_ret
    refine ⟨zN ?_,hbr⟩
    have e1:xs.take k=xs:=List.take_of_length_le (by rw[h.len];omega)
    have e2:ys.take k=ys:=List.take_of_length_le (by rw[h'.len];omega)
    have:=hn.out
    rw[e1,e2] at this
    simp[qH,this]
 ·have hl':((n:Int) != (n':Int))=true:=by simp;omega
  go_enter Tryz.func88,Tryz.ntmps88
  go_wp2
  go_ret
  refine ⟨zN ?_,Below.refl _ _⟩
  symm
  simp only[qH,decide_eq_false_iff_not]
  rintro rfl
  exact hl (h.len.symm.trans h'.len)
theorem indexFuncR_c (a:Option Addr) (n c:Nat) (ls:List (List Int)) (fk:Nat) (caps:Array Value) (p:Nat→Bool) (w:World) (h:RC w a n ls)
  (hcf:∀args w,Sem.run Tryz.prog (callFunc fk args) w = .ok (.enter fk args) w)
  (hcl:∀k,k<n→∀w' a1 n1 c1,Below w.heap.size w w'→IC w' a1 n1 (ls[k]?.getD [])→n1≤c1→Calls Tryz.prog fk (#[.slice a1 n1 c1]++caps) w' (fun e w''=>e = .returned (.bool (p k))∧Below w'.heap.size w' w'')) :
  Calls Tryz.prog 209 #[.slice a n c,.func (.func fk) #[] caps] w fun e w'=>e = .returned (.int .i64 (idxP p n))∧Below w.heap.size w w':=by
 have hm:=h.small
 have HC:=za hcl
 clear hcl
 go_enter Tryz.func209,Tryz.ntmps209
 go_wp2
 go_loopw [5,8] (fun _ i wr=>∃k:Nat,k≤n∧i = .int .i64 k∧Hid (∀j,j<k→p j=false)∧Below w.heap.size w wr) (fun _ i _=>n - (intOf i).toNat)
 case atStart=>exact ⟨0,by omega,rfl,fun j hj=>absurd hj (by omega),Below.refl _ _⟩
 case round =>
  obtain ⟨k,hk,rfl,hn,hbr⟩:=hrel
  by_cases hlt:k<n
  ·obtain ⟨b,off,a1,n1,c1,rfl,hb,hc,hi,hic⟩:=(h.mono hbr).2 k hlt
   have hK:=za (HC.out k hlt wr a1 n1 c1 hbr hi hic)
   go_wp2_with fail
   refine hK.out.mono ?_
   rintro e w1 ⟨rfl,hb1⟩
   go_wp2
   ·have he:p k=true:=by assumption
    go_ret
    exact ⟨zD (idxP_hit hn.out hlt he).symm,hbr.trans (hb1.mono hbr.size)⟩
   ·have he:p k=false:=by assumption
    go_roundw
    case rel=>exact ⟨k+1,by omega,by go_num,upB_snoc hn.out he,hbr.trans (hb1.mono hbr.size)⟩
    case measure=>simp[intOf];omega
  ·have e:k=n:=by omega
   subst e
   go_wp2
   go_ret
   exact ⟨zD (idxP_none hn.out).symm,hbr⟩
theorem ka (a:Option Addr) (n c:Nat) (ls:List (List Int)) (fk:Nat) (caps:Array Value) (p:Nat→Bool) (w:World) (h:RC w a n ls)
  (hcf:∀args w,Sem.run Tryz.prog (callFunc fk args) w = .ok (.enter fk args) w)
  (hcl:∀k,k<n→∀w' a1 n1 c1,Below w.heap.size w w'→IC w' a1 n1 (ls[k]?.getD [])→n1≤c1→Calls Tryz.prog fk (#[.slice a1 n1 c1]++caps) w' (fun e w''=>e = .returned (.bool (p k))∧Below w'.heap.size w' w'')) :
  Calls Tryz.prog 137 #[.slice a n c,.func (.func fk) #[] caps] w fun e w'=>e = .returned (.bool (qh p n))∧Below w.heap.size w w':=by
 have hE:Hid (decide (0≤idxP p n)=qh p n):=idxP_ge
 have HI:=za (indexFuncR_c a n c ls fk caps p w h hcf hcl)
 generalize idxP p n=r at hE HI
 clear hcl hcf
 go_enter Tryz.func137,Tryz.ntmps137
 go_wp2_with (go_at_call 209;refine HI.out.mono ?_;rintro e w1 ⟨rfl,hb1⟩)
 go_ret
 exact ⟨zN hE.out,hb1⟩
theorem indexFuncI_c (a:Option Addr) (n c:Nat) (xs:List Int) (fk:Nat) (caps:Array Value) (p:Nat→Bool) (w:World) (h:IC w a n xs)
  (hcf:∀args w,Sem.run Tryz.prog (callFunc fk args) w = .ok (.enter fk args) w)
  (hcl:∀k,k<n→∀w',Below w.heap.size w w'→Calls Tryz.prog fk (#[.int .i64 (xs[k]?.getD 0)]++caps) w' (fun e w''=>e = .returned (.bool (p k))∧Below w'.heap.size w' w'')) :
  Calls Tryz.prog 158 #[.slice a n c,.func (.func fk) #[] caps] w fun e w'=>e = .returned (.int .i64 (idxP p n))∧Below w.heap.size w w':=by
 have hm:=h.small
 have HC:=za hcl
 clear hcl
 go_enter Tryz.func158,Tryz.ntmps158
 go_wp2
 go_loopw [5,8] (fun _ i wr=>∃k:Nat,k≤n∧i = .int .i64 k∧Hid (∀j,j<k→p j=false)∧Below w.heap.size w wr) (fun _ i _=>n - (intOf i).toNat)
 case atStart=>exact ⟨0,by omega,rfl,fun j hj=>absurd hj (by omega),Below.refl _ _⟩
 case round =>
  obtain ⟨k,hk,rfl,hn,hbr⟩:=hrel
  by_cases hlt:k<n
  ·obtain ⟨b,off,rfl,hb,hc⟩:=(h.mono hbr).2 k hlt
   have hK:=za (HC.out k hlt wr hbr)
   go_wp2_with fail
   refine hK.out.mono ?_
   rintro e w1 ⟨rfl,hb1⟩
   go_wp2
   ·have he:p k=true:=by assumption
    go_ret
    exact ⟨zD (idxP_hit hn.out hlt he).symm,hbr.trans (hb1.mono hbr.size)⟩
   ·have he:p k=false:=by assumption
    go_roundw
    case rel=>exact ⟨k+1,by omega,by go_num,upB_snoc hn.out he,hbr.trans (hb1.mono hbr.size)⟩
    case measure=>simp[intOf];omega
  ·have e:k=n:=by omega
   subst e
   go_wp2
   go_ret
   exact ⟨zD (idxP_none hn.out).symm,hbr⟩
theorem containsFuncI_c (a:Option Addr) (n c:Nat) (xs:List Int) (fk:Nat) (caps:Array Value) (p:Nat→Bool) (w:World) (h:IC w a n xs)
  (hcf:∀args w,Sem.run Tryz.prog (callFunc fk args) w = .ok (.enter fk args) w)
  (hcl:∀k,k<n→∀w',Below w.heap.size w w'→Calls Tryz.prog fk (#[.int .i64 (xs[k]?.getD 0)]++caps) w' (fun e w''=>e = .returned (.bool (p k))∧Below w'.heap.size w' w'')) :
  Calls Tryz.prog 86 #[.slice a n c,.func (.func fk) #[] caps] w fun e w'=>e = .returned (.bool (qh p n))∧Below w.heap.size w w':=by
 have hE:Hid (decide (0≤idxP p n)=qh p n):=idxP_ge
 have HI:=za (indexFuncI_c a n c xs fk caps p w h hcf hcl)
 generalize idxP p n=r at hE HI
 clear hcl hcf
 go_enter Tryz.func86,Tryz.ntmps86
 go_wp2_with (go_at_call 158;refine HI.out.mono ?_;rintro e w1 ⟨rfl,hb1⟩)
 go_ret
 exact ⟨zN hE.out,hb1⟩
theorem zO (h:Bool) (e:Int) (w:World):Calls Tryz.prog 66 #[.bool h,.int .i64 e] w fun r w'=>r = .returned (.int .i64 (zn h e))∧w=w':=by
 cases h
 ·go_enter Tryz.func66,Tryz.ntmps66
  go_wp2
  go_ret
  exact ⟨rfl,rfl⟩
 ·go_enter Tryz.func66,Tryz.ntmps66
  go_wp2
  go_ret
  exact ⟨rfl,rfl⟩
theorem lwhen_c (h:Bool) (e:Int) (w:World):Calls Tryz.prog 165 #[.bool h,.int .i64 e] w fun r w'=>r = .returned (.int .i64 (zn h e))∧w=w':=by
 cases h
 ·go_enter Tryz.func165,Tryz.ntmps165
  go_wp2
  go_ret
  exact ⟨rfl,rfl⟩
 ·go_enter Tryz.func165,Tryz.ntmps165
  go_wp2
  go_ret
  exact ⟨rfl,rfl⟩
theorem firstL_hit {xs:List Int} {k:Nat} (h:∀j,j<k→xs[j]?.getD 0=0) (hk:k<xs.length) (hx:xs[k]?.getD 0≠0):zz xs=xs[k]?.getD 0:=by
 induction xs generalizing k with
 | nil=>simp at hk
 | cons y xs ih =>
  cases k with
  | zero=>simp at hx;simp[zz,hx]
  | succ k =>
   have h0:=h 0 (by omega)
   simp at h0
   simp only[zz,h0]
   simp only[List.getElem?_cons_succ] at hx ⊢
   exact ih (fun j hj=>by have:=h (j+1) (by omega);simpa using this) (by simpa using hk) hx
theorem firstL_none {xs:List Int} (h:∀j,j<xs.length→xs[j]?.getD 0=0):zz xs=0:=by
 induction xs with
 | nil=>rfl
 | cons y xs ih =>
  have h0:=h 0 (by simp)
  simp at h0
  simp only[zz,h0]
  exact ih (fun j hj=>by have:=h (j+1) (by simp;omega);simpa using this)
theorem upI_snoc {f:Nat→Int} {k:Nat} (h:∀j,j<k→f j=0) (hk:f k=0):∀j,j<k+1→f j=0:=jj h hk
theorem zK (a:Option Addr) (n c:Nat) (xs:List Int) (w:World) (h:IC w a n xs) :
  Calls Tryz.prog 65 #[.slice a n c] w fun e w'=>e = .returned (.int .i64 (zz xs))∧w=w':=by
 have hm:=h.small
 go_enter Tryz.func65,Tryz.ntmps65
 go_wp2
 go_loop [4,7] (fun _ i=>∃k:Nat,k≤n∧i = .int .i64 k∧Hid (∀j,j<k→xs[j]?.getD 0=0)) (fun _ i=>n - (intOf i).toNat)
 case atStart=>exact ⟨0,by omega,rfl,fun j hj=>absurd hj (by omega)⟩
 case round =>
  obtain ⟨k,hk,rfl,hn⟩:=hrel
  by_cases hlt:k<n
  ·obtain ⟨b,off,rfl,hb,hc⟩:=h.2 k hlt
   go_wp2
   ·have he:(xs[k]?.getD 0 != 0)=true:=by assumption
    go_ret
    exact ⟨zD (firstL_hit hn.out (by rw[h.len];exact hlt) (by simpa using he)).symm,rfl⟩
   ·have he:(xs[k]?.getD 0 != 0)=false:=by assumption
    go_round
    case rel=>exact ⟨k+1,by omega,by go_num,upI_snoc (f:=fun j=>xs[j]?.getD 0) hn.out (by simpa using he)⟩
    case measure=>simp[intOf];omega
  ·have e:k=n:=by omega
   subst e
   go_wp2
   go_ret
   exact ⟨zD (firstL_none (by rw[h.len];exact hn.out)).symm,rfl⟩
theorem lfirst_c (a:Option Addr) (n c:Nat) (xs:List Int) (w:World) (h:IC w a n xs) :
  Calls Tryz.prog 163 #[.slice a n c] w fun e w'=>e = .returned (.int .i64 (zz xs))∧w=w':=by
 have hm:=h.small
 go_enter Tryz.func163,Tryz.ntmps163
 go_wp2
 go_loop [4,7] (fun _ i=>∃k:Nat,k≤n∧i = .int .i64 k∧Hid (∀j,j<k→xs[j]?.getD 0=0)) (fun _ i=>n - (intOf i).toNat)
 case atStart=>exact ⟨0,by omega,rfl,fun j hj=>absurd hj (by omega)⟩
 case round =>
  obtain ⟨k,hk,rfl,hn⟩:=hrel
  by_cases hlt:k<n
  ·obtain ⟨b,off,rfl,hb,hc⟩:=h.2 k hlt
   go_wp2
   ·have he:(xs[k]?.getD 0 != 0)=true:=by assumption
    go_ret
    exact ⟨zD (firstL_hit hn.out (by rw[h.len];exact hlt) (by simpa using he)).symm,rfl⟩
   ·have he:(xs[k]?.getD 0 != 0)=false:=by assumption
    go_round
    case rel=>exact ⟨k+1,by omega,by go_num,upI_snoc (f:=fun j=>xs[j]?.getD 0) hn.out (by simpa using he)⟩
    case measure=>simp[intOf];omega
  ·have e:k=n:=by omega
   subst e
   go_wp2
   go_ret
   exact ⟨zD (firstL_none (by rw[h.len];exact hn.out)).symm,rfl⟩
theorem IC.new3 (w:World) (x y z:Int) (T:TypeId):IC (w.alloc (.cells #[.int .i64 x,.int .i64 y,.int .i64 z] T)) (some ⟨w.heap.size,0,none⟩) 3 [x,y,z] :=
 ⟨⟨rfl,by omega⟩,fun k hk=>⟨w.heap.size,0,rfl,by simp,by
  rw[zq]
  match k,hk with
  | 0,_=>rfl
  | 1,_=>rfl
  | 2,_=>rfl⟩⟩
theorem IC.new2 (w:World) (x y:Int) (T:TypeId):IC (w.alloc (.cells #[.int .i64 x,.int .i64 y] T)) (some ⟨w.heap.size,0,none⟩) 2 [x,y] :=
 ⟨⟨rfl,by omega⟩,fun k hk=>⟨w.heap.size,0,rfl,by simp,by
  rw[zq]
  match k,hk with
  | 0,_=>rfl
  | 1,_=>rfl⟩⟩
theorem IC.new1 (w:World) (x:Int) (T:TypeId):IC (w.alloc (.cells #[.int .i64 x] T)) (some ⟨w.heap.size,0,none⟩) 1 [x] :=
 ⟨⟨rfl,by omega⟩,fun k hk=>⟨w.heap.size,0,rfl,by simp,by
  rw[zq]
  match k,hk with
  | 0,_=>rfl⟩⟩
end
end Go.Proofs.YtaadpihbjhachaaGreat
