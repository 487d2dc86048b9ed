/- Texts H18 to H19 of this proof, in one file. -/
import Derived.Test.YtaadpihbjhachaaGreatW12
import Derived.Test.YtaadpihbjhachaaGreatW13
import Derived.Test.YtaadpihbjhachaaGreatW14
import Derived.Test.YtaadpihbjhachaaGreatW15
namespace Go.Proofs.YtaadpihbjhachaaGreat
set_option maxRecDepth 100000
set_option maxHeartbeats 16000000
section
open Go Go.RowKit
attribute [local go_sem] over_cell
attribute [local go_sem] Oper.semAt_some
theorem owns_pair {w:World} {base n c:Nat} {a:Option Addr} {ks:List (Int × Int)} (h:w.ownsRow base 67 2 (.slice a n c) n (pairsL ks)) {k:Nat} (hk:k<n):∃g,a=some ⟨g,0,none⟩∧w.cell? ⟨g,k*2,none⟩=some (.int .i64 (ks[k]?.getD (0,0)).1)∧w.cell? ⟨g,k*2+1,none⟩=some (.int .i64 (ks[k]?.getD (0,0)).2)∧g<w.heap.size:=by
 have hl:=h.1
 rw[pairsL_len] at hl
 have hp:=pairsL_get ks k (by omega)
 rcases h.2 with ⟨_,h3⟩|⟨g,cap,cur,hv,hb,hh,hnc,hm,hs,ht⟩
 ·omega
 ·simp only[Value.slice.injEq] at hv
  refine ⟨g,hv.1,?_,?_,lt_of_block hh⟩
  ·rw[cell_of_row w g _ cur _ (0,0) hh,← hp.1,← ht,List.getElem?_take,if_pos (by omega)]
   simp
  ·rw[cell_of_row w g _ cur _ (0,0) hh,← hp.2,← ht,List.getElem?_take,if_pos (by omega)]
   simp
theorem kids_len (g:List Int) (d:Nd):(kidsN g d).length≤g.length:=by
 unfold kidsN
 split
 ·rw[List.length_map];exact unusedTo_len g g.length
 ·split
  ·rw[List.length_map];exact openTo_len g g.length
  ·simp
theorem kLine_l:kLine.toList=[108,105,110,101]:=by simp[kLine]
theorem kids_ok {g:List Int} {d:Nd} (h:okN g d=true):∀k,k∈kidsN g d→∃c:Nat,k.1=(c:Int)∧c<g.length∧g[c]?.getD 0=0∧k.2∈unusedL g:=by
 intro k hk
 unfold okN at h
 rw[Bool.and_eq_true] at h
 have h1:=h.1
 by_cases hC:isK d.kind kCell=true
 ·have hf:=fine_cell (g:=g) hC
  rw[hf.1] at h1
  rw[hf.2] at hk
  simp only[Bool.and_eq_true,decide_eq_true_eq,beq_iff_eq] at h1
  obtain ⟨x,hx,rfl⟩:=List.mem_map.1 hk
  exact ⟨d.cell.toNat,by simp only;omega,by omega,h1.2,hx⟩
 ·have hC':isK d.kind kCell=false:=by simpa using hC
  by_cases hN:isK d.kind kNumber=true
  ·have hf:=fine_number (g:=g) hC' hN
   rw[hf.1] at h1
   rw[hf.2] at hk
   simp only[Bool.and_eq_true,decide_eq_true_eq,beq_iff_eq,Bool.not_eq_true'] at h1
   obtain ⟨x,hx,rfl⟩:=List.mem_map.1 hk
   have ho:=mem_open.1 hx
   exact ⟨x.toNat,by simp only;omega,by omega,ho.2.2,mem_unused.2 ⟨h1.1.1.2,h1.1.2,h1.2⟩⟩
  ·have hf:=fine_other (g:=g) hC' (by simpa using hN)
   rw[hf.1] at h1
   cases h1
def nextV (rb:Nat):Value := .func (.func 78) #[.pointer (some ⟨rb,0,none⟩)] #[]
structure RT (w0 w:World) (rb gb cg:Nat) (at':Option Addr) (nt ct i:Nat) (n':Nat) (g:List Int):Prop where
 below:Below w0.heap.size w0 w
 rd:RdC w rb at' nt ct i
 og:w.ownsRow 0 3 1 (.slice (some ⟨gb,0,none⟩) n' cg) n' (g.map (Value.int .i64))
 ge:w0.heap.size≤rb∧w0.heap.size≤gb∧gb≠rb
theorem RT.keep {w0 w w':World} {rb gb cg:Nat} {at':Option Addr} {nt ct i n':Nat} {g:List Int} (h:RT w0 w rb gb cg at' nt ct i n' g) (hb:Below w.heap.size w w'):RT w0 w' rb gb cg at' nt ct i n' g :=
 ⟨h.below.trans (hb.mono h.below.size),keepq hb h.rd,owns_keep h.og (fun k _ hl=>hb.block k hl),h.ge⟩
theorem RT.put {w0 w:World} {rb gb cg:Nat} {at':Option Addr} {nt ct i n':Nat} {g:List Int} (h:RT w0 w rb gb cg at' nt ct i n' g) (k:Nat) (x:Int):RT w0 (w.setCell ⟨gb,k,none⟩ (.int .i64 x)) rb gb cg at' nt ct i n' (g.set k x) :=
 ⟨h.below.setCell (p:=⟨gb,k,none⟩) h.ge.2.1 _,q_other h.rd (Ne.symm h.ge.2.2) _,by rw[List.map_set];exact owns_set h.og k _,h.ge⟩
theorem RT.ic {w0 w:World} {rb gb cg:Nat} {at':Option Addr} {nt ct i n':Nat} {g:List Int} (h:RT w0 w rb gb cg at' nt ct i n' g) (hn:n'≤256):IC w (some ⟨gb,0,none⟩) n' g∧g.length=n':=by
 have hl:=h.og.1
 rw[List.length_map] at hl
 have hg:g.length=n':=by omega
 have ho:=h.og
 rw[← hg] at ho
 have:=(IC.of_owns ho (by omega)).1
 rw[hg] at this
 exact ⟨this,hg⟩
def MT (rb gb:Nat) (k:Nat):Prop:=k=rb∨k=gb
theorem refuted_c {cells:Int} {ls:List (List Int)} {sum:Int} (w0:World) (rb gb cg:Nat) (a:Option Addr) (n c n':Nat) (hrc:RC w0 a n ls) (hn2:n'≤256) (at':Option Addr) (nt ct:Nat) (T:List Nd) (htc:TC w0 at' nt T):∀(f:Nat) (g:List Int) (i:Nat) (w:World),GoodTask cells ls sum g→i≤nt→nt - i<f→RT w0 w rb gb cg at' nt ct i n' g →
  Calls Tryz.prog 150 #[.agg #[.int .i64 cells,.slice a n c,.int .i64 sum,.slice (some ⟨gb,0,none⟩) n' cg],nextV rb] w fun e w'=>∃i',i'≤nt∧e = .returned (.bool (refT ls sum f g (T.drop i)).isSome)∧(∀R,refT ls sum f g (T.drop i)=some R→R=T.drop i')∧RT w0 w' rb gb cg at' nt ct i' n' g∧Stays (MT rb gb) w w':=by
 intro f
 induction f with
 | zero=>intro g i w _ _ h;omega
 | succ f ih =>
  intro g i w hG hi hfu hrt
  have HIH:=Lib.hid ih
  have HG:=Lib.hid hG
  have HRT:=Lib.hid hrt
  have htl:=Lib.hid htc.1.1
  have HTC:=Lib.hid htc
  have HRC:=Lib.hid hrc
  have hgl:=(hrt.ic hn2).2
  have hll:=Lib.hid hrc.len
  clear ih hG hrt
  unfold nextV
  go_enter Tryz.func150,Tryz.ntmps150
  go_wp2_with fail
  have fsz:(w.alloc (.cells #[.int .i64 cells,.slice a n c,.int .i64 sum,.slice (some ⟨gb,0,none⟩) n' cg] 27)).heap.size=w.heap.size+1:=by simp only[World.size_alloc]
  have fB:Below w.heap.size w (w.alloc (.cells #[.int .i64 cells,.slice a n c,.int .i64 sum,.slice (some ⟨gb,0,none⟩) n' cg] 27)):=(Below.refl _ _).alloc (Nat.le_refl _) _
  have fq0:(w.alloc (.cells #[.int .i64 cells,.slice a n c,.int .i64 sum,.slice (some ⟨gb,0,none⟩) n' cg] 27)).heap[w.heap.size]?=some (.cells #[.int .i64 cells,.slice a n c,.int .i64 sum,.slice (some ⟨gb,0,none⟩) n' cg] 27 (0,0)):=by have h:=World.alloc_heap_new w (.cells #[.int .i64 cells,.slice a n c,.int .i64 sum,.slice (some ⟨gb,0,none⟩) n' cg] 27);exact h
  generalize (w.alloc (.cells #[.int .i64 cells,.slice a n c,.int .i64 sum,.slice (some ⟨gb,0,none⟩) n' cg] 27))=W0 at fsz fB fq0 ⊢
  have HQ0:=Lib.hid fq0
  have fsz':w.heap.size<W0.heap.size:=by omega
  have HR0:=Lib.hid (HRT.out.keep fB)
  clear fq0 fsz
  by_cases hend:i=nt
  ·subst hend
   have hdrop:T.drop i=[]:=List.drop_eq_nil_of_le (by rw[htl.out];exact Nat.le_refl _)
   have HD:=Lib.hid hdrop
   clear hdrop
   refine (next_end rb at' i ct W0 HR0.out.rd).mono ?_
   rintro _ w1 ⟨rfl,hb1⟩
   go_wp2_with fail
   go_ret
   have hbA:Below w1.heap.size w1 (w1.alloc (.cells #[.string ⟨#[]⟩,.int .i64 0,.int .i64 0,.int .i64 0,.int .i64 0] 104)):=(Below.refl _ _).alloc (Nat.le_refl _) _
   refine ⟨i,Nat.le_refl _,by rw[HD.out];rfl,fun R h=>(by rw[HD.out] at h;cases h),(HR0.out.keep hb1).keep hbA,Below.stays (fB.trans ((hb1.trans (hbA.mono hb1.size)).mono fB.size)) _⟩
  ·have hlt:i<nt:=by omega
   obtain ⟨d,hd⟩:∃d,T[i]?=some d:=⟨T[i]'(by rw[htl.out];exact hlt),List.getElem?_eq_getElem _⟩
   have HDR:Hid (T.drop i=d :: T.drop (i+1)):=by
    unfold Hid
    have hl:i<T.length:=by rw[htl.out];exact hlt
    rw[List.drop_eq_getElem_cons hl]
    rw[List.getElem?_eq_getElem hl] at hd
    rw[Option.some.inj hd]
   have hge:=HRT.out.ge
   refine (next_node rb at' nt ct i T d W0 HR0.out.rd (HTC.out.mono HR0.out.below) hd (fun p e=>by
    obtain ⟨b9,o9,e9,hl9,_⟩:=HTC.out.2 i d hd
    rw[e] at e9
    cases e9
    simp only
    omega)).mono ?_
   rintro _ w1 ⟨rfl,hrd1,hst1⟩
   unfold ndV
   have HRD1:=Lib.hid hrd1
   have HST1:=Lib.hid hst1
   have hq1:=stays_q hst1 HQ0.out (by have:=q_lt HRT.out.rd;omega)
   have hkq:=keepq ((Below.refl w1.heap.size w1).alloc (Nat.le_refl _) (.cells #[.string d.kind,.int .i64 d.cell,.int .i64 d.line,.int .i64 d.number,.int .i64 d.kids] 104)) hq1
   have HQ1:=Lib.hid hq1
   have hBs1:Below w0.heap.size w0 w1:=HR0.out.below.trans (hst1.below HR0.out.below.size (fun k e=>by omega))
   have HRT1:Hid (RT w0 w1 rb gb cg at' nt ct (i+1) n' g):=⟨hBs1,hrd1,owns_keep HR0.out.og (fun k e hl=>hst1.block k hl (fun e2=>by simp only[Value.ownBlock,Option.some.injEq] at e;omega)),hge⟩
   clear hd hrd1 hst1 hkq
   go_upto_region 4 with fail
   have ksz:(w1.alloc (.cells #[.string d.kind,.int .i64 d.cell,.int .i64 d.line,.int .i64 d.number,.int .i64 d.kids] 104)).heap.size=w1.heap.size+1:=by simp only[World.size_alloc]
   have kB:Below w1.heap.size w1 (w1.alloc (.cells #[.string d.kind,.int .i64 d.cell,.int .i64 d.line,.int .i64 d.number,.int .i64 d.kids] 104)):=(Below.refl _ _).alloc (Nat.le_refl _) _
   have kq0:(w1.alloc (.cells #[.string d.kind,.int .i64 d.cell,.int .i64 d.line,.int .i64 d.number,.int .i64 d.kids] 104)).heap[w1.heap.size]?=some (.cells #[.string d.kind,.int .i64 d.cell,.int .i64 d.line,.int .i64 d.number,.int .i64 d.kids] 104 (0,0)):=by have h:=World.alloc_heap_new w1 (.cells #[.string d.kind,.int .i64 d.cell,.int .i64 d.line,.int .i64 d.number,.int .i64 d.kids] 104);exact h
   generalize (w1.alloc (.cells #[.string d.kind,.int .i64 d.cell,.int .i64 d.line,.int .i64 d.number,.int .i64 d.kids] 104))=W3 at ksz kB kq0 ⊢
   have HN3:=Lib.hid kq0
   have HQ3:=Lib.hid (keepq kB HQ1.out)
   have HRT3:=Lib.hid (HRT1.out.keep kB)
   have HST3:Hid (Stays (MT rb gb) w W3):=((Below.stays fB _).trans (HST1.out.mono (T:=MT rb gb) (fun k e => .inl e)) (fun _ e => .inl e)).trans (Below.stays kB (MT rb gb)) (fun _ e => .inl e)
   have x0:W3.cell? ⟨w.heap.size,0,none⟩=some (.int .i64 cells):=q_cell HQ3.out 0
   have x1:W3.cell? ⟨w.heap.size,1,none⟩=some (.slice a n c):=q_cell HQ3.out 1
   have x2:W3.cell? ⟨w.heap.size,2,none⟩=some (.int .i64 sum):=q_cell HQ3.out 2
   have x3:W3.cell? ⟨w.heap.size,3,none⟩=some (.slice (some ⟨gb,0,none⟩) n' cg):=q_cell HQ3.out 3
   have xl:=q_lt HQ3.out
   have y0:W3.cell? ⟨w1.heap.size,0,none⟩=some (.string d.kind):=q_cell kq0 0
   have y1:W3.cell? ⟨w1.heap.size,1,none⟩=some (.int .i64 d.cell):=q_cell kq0 1
   have y2:W3.cell? ⟨w1.heap.size,2,none⟩=some (.int .i64 d.line):=q_cell kq0 2
   have y3:W3.cell? ⟨w1.heap.size,3,none⟩=some (.int .i64 d.number):=q_cell kq0 3
   have y4:W3.cell? ⟨w1.heap.size,4,none⟩=some (.int .i64 d.kids):=q_cell kq0 4
   have yl:=q_lt kq0
   clear kq0 ksz hq1
   cases hK:isK d.kind kLine with
   | true =>
    have hKL:(d.kind.toList==[108,105,110,101])=true:=by rw[← kLine_l];exact hK
    have hRE:Hid (refT ls sum (f+1) g (T.drop i)=if lineOk ls sum g d=true then some (T.drop (i+1)) else none):=by
     unfold Hid;rw[HDR.out];simp only[refT];rw[if_pos hK]
    have HLN:Hid (∀(b:Bool) (w':World),Below W3.heap.size W3 w'→lineOk ls sum g d=b→∃i',i'≤nt∧Ending.returned (.bool b) = .returned (.bool (refT ls sum (f+1) g (T.drop i)).isSome)∧(∀R,refT ls sum (f+1) g (T.drop i)=some R→R=T.drop i')∧RT w0 w' rb gb cg at' nt ct i' n' g∧Stays (MT rb gb) w w'):=fun b w' hb h=>by
     refine ⟨i+1,hlt,?_,?_,HRT3.out.keep hb,HST3.out.trans (Below.stays hb (MT rb gb)) (fun _ e => .inl e)⟩
     ·rw[hRE.out,h];cases b <;> rfl
     ·intro R hR
      rw[hRE.out,h] at hR
      cases b
      ·cases hR
      ·exact (Option.some.inj hR).symm
    have hLD:Hid (lineOk ls sum g d=(d.cell==0&&d.number==0&&d.kids==0&&decide (0≤d.line)&&decide (d.line<ls.length)&&beyV (ls[d.line.toNat]?.getD []) g sum)):=rfl
    have HUN:=Lib.hid (fun W (hb:Below W3.heap.size W3 W)=>unused_c (.slice a n c) cells sum (some ⟨gb,0,none⟩) n' cg g W ((HRT3.out.keep hb).ic hn2).1 hn2 (fun k _=>HG.out.num' k))
    have HUL:Hid ((unusedL g).length≤256):=by unfold Hid;have:=unusedTo_len g g.length;unfold unusedL;omega
    clear hK
    by_cases l1:d.cell=0
    ·have m1:(d.cell==0)=true:=by simpa using l1
     by_cases l2:d.number=0
     ·have m2:(d.number==0)=true:=by simpa using l2
      by_cases l3:d.kids=0
      ·have m3:(d.kids==0)=true:=by simpa using l3
       by_cases l4:0≤d.line
       ·have m4:d.line≥0:=l4
        by_cases l5:d.line<(n:Int)
        ·obtain ⟨li,hli⟩:∃li:Nat,d.line=(li:Int):=⟨d.line.toNat,by omega⟩
         have LV:Hid (lineOk ls sum g d=beyV (ls[li]?.getD []) g sum):=by unfold Hid;rw[hLD.out,m1,m2,m3,decide_eq_true l4,hll.out,decide_eq_true l5,hli,Int.toNat_natCast];rfl
         have HBY:=Lib.hid (fun W au nu cu (hb:Below W3.heap.size W3 W) (hu:IC W au nu (unusedL g))=>beyond_c HG.out a n c (some ⟨gb,0,none⟩) n' cg li au nu cu W (HRC.out.mono (HRT3.out.keep hb).below) ((HRT3.out.keep hb).ic hn2).1 hu (by omega))
         rw[hli] at y2 l4 l5 m4
         clear hli
         go_wp2_with fail
         refine wp_region_S (fun w'=>∃u,w'=over (W3) u) [35] [(0,0),(0,1),(0,2),(0,3),(0,4),(0,5),(0,6),(0,7),(0,8),(0,9),(0,10),(0,11),(0,12),(0,13),(0,14),(0,15),(0,16),(0,17),(0,18),(0,19),(0,20),(0,21),(0,22),(0,23),(0,24),(0,25),(0,26),(0,27),(0,28),(0,29),(0,30),(0,31),(1,32),(1,33),(0,34),(2,35)] (by kernel_rfl) (by kernel_rfl) (by exact ⟨_,below_over (by repeat (first|assumption|exact Below.refl _ _|refine keep_drew ?_|refine keep_alloc ?_ _|refine keep_trans ?_ (by assumption)))⟩) ?_
         dsimp only[pickOps,nthOp]
         repeat (first|(refine wpS_skip rfl (fun K hK=>?_);go_big_quiet_op;refine hK _ ?_;clear hK K)|(refine wpS_quiet rfl rfl (fun K hK=>?_);go_big_quiet_op;refine hK _ ?_;clear hK K)|(refine wpS_loud ?_;go_wp2_with (first|(go_at_call 73;refine (HUN.out _ (keep_drew (Below.refl _ _))).mono ?_;rintro _ w5 ⟨vu,rfl,hownu,hb5⟩;obtain ⟨au,cu,rfl⟩:=owns_shape hownu;have hicu:=(IC.of_owns hownu (by have:=HUL.out;omega)).1)|(go_at_call 148;refine (HBY.out _ au _ cu (keep_trans (keep_drew (Below.refl _ _)) hb5) hicu).mono ?_;rintro _ w6 ⟨rfl,hb6⟩));refine ⟨?_,?_⟩;focus (exact ⟨_,below_over (by repeat (first|assumption|exact Below.refl _ _|refine keep_drew ?_|refine keep_alloc ?_ _|refine keep_trans ?_ (by assumption)))⟩)))
         refine wpS_late _ _ _ rfl ?_
         dsimp only[List.map]
         go_wp2_with (first|(go_at_call 73;refine (HUN.out _ (keep_drew (Below.refl _ _))).mono ?_;rintro _ w5 ⟨vu,rfl,hownu,hb5⟩;obtain ⟨au,cu,rfl⟩:=owns_shape hownu;have hicu:=(IC.of_owns hownu (by have:=HUL.out;omega)).1)|(go_at_call 148;refine (HBY.out _ au _ cu (keep_trans (keep_drew (Below.refl _ _)) hb5) hicu).mono ?_;rintro _ w6 ⟨rfl,hb6⟩))
         refine NoPanic.normal ?_
         go_wp2
         go_ret
         have hB6:=keep_trans (keep_trans (keep_drew (Below.refl _ _)) hb5) hb6
         exact HLN.out _ _ hB6 LV.out
        ·have LV:Hid (lineOk ls sum g d=false):=by unfold Hid;rw[hLD.out,hll.out,decide_eq_false l5];simp
         have k5:decide (d.line<(n:Int))=false:=decide_eq_false l5
         go_wp2_with fail
         refine wp_region_S (fun w'=>∃u,w'=over (W3) u) [35] [(0,0),(0,1),(0,2),(0,3),(0,4),(0,5),(0,6),(0,7),(0,8),(0,9),(0,10),(0,11),(0,12),(0,13),(0,14),(0,15),(0,16),(0,17),(0,18),(0,19),(0,20),(0,21),(0,22),(0,23),(0,24),(0,25),(0,26),(0,27),(0,28),(0,29),(0,30),(0,31),(1,32),(1,33),(0,34),(2,35)] (by kernel_rfl) (by kernel_rfl) (by exact ⟨_,below_over (by repeat (first|assumption|exact Below.refl _ _|refine keep_drew ?_|refine keep_alloc ?_ _|refine keep_trans ?_ (by assumption)))⟩) ?_
         dsimp only[pickOps,nthOp]
         repeat (first|(refine wpS_skip rfl (fun K hK=>?_);go_big_quiet_op;refine hK _ ?_;clear hK K)|(refine wpS_quiet rfl rfl (fun K hK=>?_);go_big_quiet_op;refine hK _ ?_;clear hK K)|(refine wpS_loud ?_;go_wp2_with (first|(go_at_call 73;refine (HUN.out _ (keep_drew (Below.refl _ _))).mono ?_;rintro _ w5 ⟨vu,rfl,hownu,hb5⟩;obtain ⟨au,cu,rfl⟩:=owns_shape hownu;have hicu:=(IC.of_owns hownu (by have:=HUL.out;omega)).1)|(go_at_call 148;refine (HBY.out _ au _ cu (keep_trans (keep_drew (Below.refl _ _)) hb5) hicu).mono ?_;rintro _ w6 ⟨rfl,hb6⟩));refine ⟨?_,?_⟩;focus (exact ⟨_,below_over (by repeat (first|assumption|exact Below.refl _ _|refine keep_drew ?_|refine keep_alloc ?_ _|refine keep_trans ?_ (by assumption)))⟩)))
         refine wpS_late _ _ _ rfl ?_
         dsimp only[List.map]
         go_wp2_with (first|(go_at_call 73;refine (HUN.out _ (keep_drew (Below.refl _ _))).mono ?_;rintro _ w5 ⟨vu,rfl,hownu,hb5⟩;obtain ⟨au,cu,rfl⟩:=owns_shape hownu;have hicu:=(IC.of_owns hownu (by have:=HUL.out;omega)).1)|(go_at_call 148;refine (HBY.out _ au _ cu (keep_trans (keep_drew (Below.refl _ _)) hb5) hicu).mono ?_;rintro _ w6 ⟨rfl,hb6⟩))
         refine NoPanic.normal ?_
         go_wp2
         go_ret
         exact HLN.out _ _ (Below.refl _ _).drew LV.out
       ·have m4:¬d.line≥0:=l4
        have LV:Hid (lineOk ls sum g d=false):=by unfold Hid;rw[hLD.out,decide_eq_false l4];simp
        have k4:decide (0≤d.line)=false:=decide_eq_false l4
        go_wp2_with fail
        refine wp_region_S (fun w'=>∃u,w'=over (W3) u) [35] [(0,0),(0,1),(0,2),(0,3),(0,4),(0,5),(0,6),(0,7),(0,8),(0,9),(0,10),(0,11),(0,12),(0,13),(0,14),(0,15),(0,16),(0,17),(0,18),(0,19),(0,20),(0,21),(0,22),(0,23),(0,24),(0,25),(0,26),(0,27),(0,28),(0,29),(0,30),(0,31),(1,32),(1,33),(0,34),(2,35)] (by kernel_rfl) (by kernel_rfl) (by exact ⟨_,below_over (by repeat (first|assumption|exact Below.refl _ _|refine keep_drew ?_|refine keep_alloc ?_ _|refine keep_trans ?_ (by assumption)))⟩) ?_
        dsimp only[pickOps,nthOp]
        repeat (first|(refine wpS_skip rfl (fun K hK=>?_);go_big_quiet_op;refine hK _ ?_;clear hK K)|(refine wpS_quiet rfl rfl (fun K hK=>?_);go_big_quiet_op;refine hK _ ?_;clear hK K)|(refine wpS_loud ?_;go_wp2_with (first|(go_at_call 73;refine (HUN.out _ (keep_drew (Below.refl _ _))).mono ?_;rintro _ w5 ⟨vu,rfl,hownu,hb5⟩;obtain ⟨au,cu,rfl⟩:=owns_shape hownu;have hicu:=(IC.of_owns hownu (by have:=HUL.out;omega)).1)|(go_at_call 148;refine (HBY.out _ au _ cu (keep_trans (keep_drew (Below.refl _ _)) hb5) hicu).mono ?_;rintro _ w6 ⟨rfl,hb6⟩));refine ⟨?_,?_⟩;focus (exact ⟨_,below_over (by repeat (first|assumption|exact Below.refl _ _|refine keep_drew ?_|refine keep_alloc ?_ _|refine keep_trans ?_ (by assumption)))⟩)))
        refine wpS_late _ _ _ rfl ?_
        dsimp only[List.map]
        go_wp2_with (first|(go_at_call 73;refine (HUN.out _ (keep_drew (Below.refl _ _))).mono ?_;rintro _ w5 ⟨vu,rfl,hownu,hb5⟩;obtain ⟨au,cu,rfl⟩:=owns_shape hownu;have hicu:=(IC.of_owns hownu (by have:=HUL.out;omega)).1)|(go_at_call 148;refine (HBY.out _ au _ cu (keep_trans (keep_drew (Below.refl _ _)) hb5) hicu).mono ?_;rintro _ w6 ⟨rfl,hb6⟩))
        refine NoPanic.normal ?_
        go_wp2
        go_ret
        exact HLN.out _ _ (Below.refl _ _).drew LV.out
      ·have m3:(d.kids==0)=false:=by simpa using l3
       have LV:Hid (lineOk ls sum g d=false):=by unfold Hid;rw[hLD.out,m3];simp
       go_wp2_with fail
       refine wp_region_S (fun w'=>∃u,w'=over (W3) u) [35] [(0,0),(0,1),(0,2),(0,3),(0,4),(0,5),(0,6),(0,7),(0,8),(0,9),(0,10),(0,11),(0,12),(0,13),(0,14),(0,15),(0,16),(0,17),(0,18),(0,19),(0,20),(0,21),(0,22),(0,23),(0,24),(0,25),(0,26),(0,27),(0,28),(0,29),(0,30),(0,31),(1,32),(1,33),(0,34),(2,35)] (by kernel_rfl) (by kernel_rfl) (by exact ⟨_,below_over (by repeat (first|assumption|exact Below.refl _ _|refine keep_drew ?_|refine keep_alloc ?_ _|refine keep_trans ?_ (by assumption)))⟩) ?_
       dsimp only[pickOps,nthOp]
       repeat (first|(refine wpS_skip rfl (fun K hK=>?_);go_big_quiet_op;refine hK _ ?_;clear hK K)|(refine wpS_quiet rfl rfl (fun K hK=>?_);go_big_quiet_op;refine hK _ ?_;clear hK K)|(refine wpS_loud ?_;go_wp2_with (first|(go_at_call 73;refine (HUN.out _ (keep_drew (Below.refl _ _))).mono ?_;rintro _ w5 ⟨vu,rfl,hownu,hb5⟩;obtain ⟨au,cu,rfl⟩:=owns_shape hownu;have hicu:=(IC.of_owns hownu (by have:=HUL.out;omega)).1)|(go_at_call 148;refine (HBY.out _ au _ cu (keep_trans (keep_drew (Below.refl _ _)) hb5) hicu).mono ?_;rintro _ w6 ⟨rfl,hb6⟩));refine ⟨?_,?_⟩;focus (exact ⟨_,below_over (by repeat (first|assumption|exact Below.refl _ _|refine keep_drew ?_|refine keep_alloc ?_ _|refine keep_trans ?_ (by assumption)))⟩)))
       refine wpS_late _ _ _ rfl ?_
       dsimp only[List.map]
       go_wp2_with (first|(go_at_call 73;refine (HUN.out _ (keep_drew (Below.refl _ _))).mono ?_;rintro _ w5 ⟨vu,rfl,hownu,hb5⟩;obtain ⟨au,cu,rfl⟩:=owns_shape hownu;have hicu:=(IC.of_owns hownu (by have:=HUL.out;omega)).1)|(go_at_call 148;refine (HBY.out _ au _ cu (keep_trans (keep_drew (Below.refl _ _)) hb5) hicu).mono ?_;rintro _ w6 ⟨rfl,hb6⟩))
       refine NoPanic.normal ?_
       go_wp2
       go_ret
       exact HLN.out _ _ (Below.refl _ _).drew LV.out
     ·have m2:(d.number==0)=false:=by simpa using l2
      have LV:Hid (lineOk ls sum g d=false):=by unfold Hid;rw[hLD.out,m2];simp
      go_wp2_with fail
      refine wp_region_S (fun w'=>∃u,w'=over (W3) u) [35] [(0,0),(0,1),(0,2),(0,3),(0,4),(0,5),(0,6),(0,7),(0,8),(0,9),(0,10),(0,11),(0,12),(0,13),(0,14),(0,15),(0,16),(0,17),(0,18),(0,19),(0,20),(0,21),(0,22),(0,23),(0,24),(0,25),(0,26),(0,27),(0,28),(0,29),(0,30),(0,31),(1,32),(1,33),(0,34),(2,35)] (by kernel_rfl) (by kernel_rfl) (by exact ⟨_,below_over (by repeat (first|assumption|exact Below.refl _ _|refine keep_drew ?_|refine keep_alloc ?_ _|refine keep_trans ?_ (by assumption)))⟩) ?_
      dsimp only[pickOps,nthOp]
      repeat (first|(refine wpS_skip rfl (fun K hK=>?_);go_big_quiet_op;refine hK _ ?_;clear hK K)|(refine wpS_quiet rfl rfl (fun K hK=>?_);go_big_quiet_op;refine hK _ ?_;clear hK K)|(refine wpS_loud ?_;go_wp2_with (first|(go_at_call 73;refine (HUN.out _ (keep_drew (Below.refl _ _))).mono ?_;rintro _ w5 ⟨vu,rfl,hownu,hb5⟩;obtain ⟨au,cu,rfl⟩:=owns_shape hownu;have hicu:=(IC.of_owns hownu (by have:=HUL.out;omega)).1)|(go_at_call 148;refine (HBY.out _ au _ cu (keep_trans (keep_drew (Below.refl _ _)) hb5) hicu).mono ?_;rintro _ w6 ⟨rfl,hb6⟩));refine ⟨?_,?_⟩;focus (exact ⟨_,below_over (by repeat (first|assumption|exact Below.refl _ _|refine keep_drew ?_|refine keep_alloc ?_ _|refine keep_trans ?_ (by assumption)))⟩)))
      refine wpS_late _ _ _ rfl ?_
      dsimp only[List.map]
      go_wp2_with (first|(go_at_call 73;refine (HUN.out _ (keep_drew (Below.refl _ _))).mono ?_;rintro _ w5 ⟨vu,rfl,hownu,hb5⟩;obtain ⟨au,cu,rfl⟩:=owns_shape hownu;have hicu:=(IC.of_owns hownu (by have:=HUL.out;omega)).1)|(go_at_call 148;refine (HBY.out _ au _ cu (keep_trans (keep_drew (Below.refl _ _)) hb5) hicu).mono ?_;rintro _ w6 ⟨rfl,hb6⟩))
      refine NoPanic.normal ?_
      go_wp2
      go_ret
      exact HLN.out _ _ (Below.refl _ _).drew LV.out
    ·have m1:(d.cell==0)=false:=by simpa using l1
     have LV:Hid (lineOk ls sum g d=false):=by unfold Hid;rw[hLD.out,m1];simp
     go_wp2_with fail
     refine wp_region_S (fun w'=>∃u,w'=over (W3) u) [35] [(0,0),(0,1),(0,2),(0,3),(0,4),(0,5),(0,6),(0,7),(0,8),(0,9),(0,10),(0,11),(0,12),(0,13),(0,14),(0,15),(0,16),(0,17),(0,18),(0,19),(0,20),(0,21),(0,22),(0,23),(0,24),(0,25),(0,26),(0,27),(0,28),(0,29),(0,30),(0,31),(1,32),(1,33),(0,34),(2,35)] (by kernel_rfl) (by kernel_rfl) (by exact ⟨_,below_over (by repeat (first|assumption|exact Below.refl _ _|refine keep_drew ?_|refine keep_alloc ?_ _|refine keep_trans ?_ (by assumption)))⟩) ?_
     dsimp only[pickOps,nthOp]
     repeat (first|(refine wpS_skip rfl (fun K hK=>?_);go_big_quiet_op;refine hK _ ?_;clear hK K)|(refine wpS_quiet rfl rfl (fun K hK=>?_);go_big_quiet_op;refine hK _ ?_;clear hK K)|(refine wpS_loud ?_;go_wp2_with (first|(go_at_call 73;refine (HUN.out _ (keep_drew (Below.refl _ _))).mono ?_;rintro _ w5 ⟨vu,rfl,hownu,hb5⟩;obtain ⟨au,cu,rfl⟩:=owns_shape hownu;have hicu:=(IC.of_owns hownu (by have:=HUL.out;omega)).1)|(go_at_call 148;refine (HBY.out _ au _ cu (keep_trans (keep_drew (Below.refl _ _)) hb5) hicu).mono ?_;rintro _ w6 ⟨rfl,hb6⟩));refine ⟨?_,?_⟩;focus (exact ⟨_,below_over (by repeat (first|assumption|exact Below.refl _ _|refine keep_drew ?_|refine keep_alloc ?_ _|refine keep_trans ?_ (by assumption)))⟩)))
     refine wpS_late _ _ _ rfl ?_
     dsimp only[List.map]
     go_wp2_with (first|(go_at_call 73;refine (HUN.out _ (keep_drew (Below.refl _ _))).mono ?_;rintro _ w5 ⟨vu,rfl,hownu,hb5⟩;obtain ⟨au,cu,rfl⟩:=owns_shape hownu;have hicu:=(IC.of_owns hownu (by have:=HUL.out;omega)).1)|(go_at_call 148;refine (HBY.out _ au _ cu (keep_trans (keep_drew (Below.refl _ _)) hb5) hicu).mono ?_;rintro _ w6 ⟨rfl,hb6⟩))
     refine NoPanic.normal ?_
     go_wp2
     go_ret
     exact HLN.out _ _ (Below.refl _ _).drew LV.out
   | false =>
    have hKL:(d.kind.toList==[108,105,110,101])=false:=by rw[← kLine_l];exact hK
    have hRE:Hid (refT ls sum (f+1) g (T.drop i)=if okN g d=true then kidsR (refT ls sum f) g (kidsN g d) (T.drop (i+1)) else none):=by
     unfold Hid;rw[HDR.out];simp only[refT];rw[if_neg (by rw[hK];decide)]
    have HKI:=Lib.hid (kids_c (.slice a n c) cells sum (some ⟨gb,0,none⟩) n' cg g d W3 (HRT3.out.ic hn2).1 hn2 HG.out.num')
    clear hK
    go_wp2_with fail
    refine HKI.out.mono ?_
    rintro _ w5 ⟨ar,cr,rfl,hown5,hb5⟩
    clear x0 x1 x2 x3 xl y0 y1 y2 y3 y4 yl HKI
    have HRT5:=Lib.hid (HRT3.out.keep hb5)
    have HST5:Hid (Stays (MT rb gb) w w5):=HST3.out.trans (Below.stays hb5 (MT rb gb)) (fun _ e => .inl e)
    have HQ5:=Lib.hid (keepq hb5 HQ3.out)
    have HO5:=Lib.hid hown5
    clear hown5
    cases hok:okN g d with
    | false =>
     rw[hok,if_neg (by decide)] at hRE
     clear hok
     go_wp2_with fail
     go_ret
     exact ⟨i+1,hlt,by rw[hRE.out];rfl,fun R h=>(by rw[hRE.out] at h;cases h),HRT5.out,HST5.out⟩
    | true =>
     rw[hok,if_pos rfl] at hRE
     have HKO:=Lib.hid (kids_ok hok)
     clear hok
     have hL3:w.heap.size<W3.heap.size:=q_lt HQ3.out
     have hkl:=kids_len g d
     have hr3:=q_lt HRT3.out.rd
     have hg3:=(HRT3.out.og.lt gb rfl).2
     go_wp2_with fail
     go_loopw [10,11,67] (fun _ _ iv wv=>∃(j ij:Nat),j≤(kidsN g d).length∧iv = .int .i64 j∧i+1≤ij∧ij≤nt∧Hid (kidsR (refT ls sum f) g (kidsN g d) (T.drop (i+1))=kidsR (refT ls sum f) g ((kidsN g d).drop j) (T.drop ij))∧Hid (RT w0 wv rb gb cg at' nt ct ij n' g)∧Hid (Stays (MT rb gb) w wv)∧Hid (Stays (MT rb gb) w5 wv)) (fun _ _ iv _=>(kidsN g d).length - (intOf iv).toNat)
     case atStart=>exact ⟨0,i+1,by omega,rfl,Nat.le_refl _,hlt,rfl,HRT5.out,HST5.out,Stays.refl _ _⟩
     case round =>
      obtain ⟨j,ij,hj,rfl,hij1,hij2,hkr,hrt,hst,hst5⟩:=hrel
      have hz5:=hst5.out.size
      have hz35:=hb5.size
      by_cases hlt2:j<(kidsN g d).length
      ·have hkm:(kidsN g d)[j]?.getD (0,0)∈kidsN g d:=by rw[List.getElem?_eq_getElem hlt2];exact List.getElem_mem hlt2
       obtain ⟨cc,hc1,hc2,hc3,hc4⟩:=HKO.out _ hkm
       have hown6:wr.ownsRow W3.heap.size 67 2 (.slice ar (kidsN g d).length cr) (kidsN g d).length (pairsL (kidsN g d)):=owns_keep HO5.out (fun k e hl=>hst5.out.block k hl (fun e2=>by
        have h1:=owns_ge HO5.out e
        rcases e2 with e2|e2 <;> omega))
       obtain ⟨gk,hgk,hp0,hp1,hgl2⟩:=owns_pair hown6 hlt2
       have HCO:Hid (kidsR (refT ls sum f) g ((kidsN g d).drop j) (T.drop ij)=match refT ls sum f (g.set cc ((kidsN g d)[j]?.getD (0,0)).2) (T.drop ij) with
         | none=>none
         | some T'=>kidsR (refT ls sum f) g ((kidsN g d).drop (j+1)) T'):=by
        unfold Hid
        rw[List.drop_eq_getElem_cons hlt2]
        rw[List.getElem?_eq_getElem hlt2,Option.getD_some] at hc1 ⊢
        simp only[kidsR]
        rw[hc1,Int.toNat_natCast]
        rfl
       rw[hc1] at hp0
       obtain ⟨x,hx⟩:∃x,((kidsN g d)[j]?.getD (0,0)).2=x:=⟨_,rfl⟩
       rw[hx] at hp1 HCO hc4
       clear hx hc1 hkm
       have HC3:=Lib.hid hc3
       have HC4:=Lib.hid hc4
       have hji:(j:Int)<((kidsN g d).length:Int):=by omega
       have hcn:cc<n':=by omega
       have hci:(cc:Int)<(n':Int):=by omega
       obtain ⟨g9,cap9,x9,hv9,_,hc9,hf9,hg9,_⟩:=owns_free hrt.out.og cc hcn
       simp only[Value.slice.injEq,Option.some.injEq,Addr.mk.injEq,true_and,and_true] at hv9
       obtain ⟨rfl,hcap9⟩:=hv9
       clear hcap9
       have hQr:=stays_q hst5.out HQ5.out (by
        have hge:=hrt.out.ge
        have h1:=HRT.out.og.lt gb rfl
        have h2:=q_lt HRT.out.rd
        rintro (e|e) <;> omega)
       have z0:wr.cell? ⟨w.heap.size,0,none⟩=some (.int .i64 cells):=q_cell hQr 0
       have z1:wr.cell? ⟨w.heap.size,1,none⟩=some (.slice a n c):=q_cell hQr 1
       have z2:wr.cell? ⟨w.heap.size,2,none⟩=some (.int .i64 sum):=q_cell hQr 2
       have z3:wr.cell? ⟨w.heap.size,3,none⟩=some (.slice (some ⟨gb,0,none⟩) n' cg):=q_cell hQr 3
       have zl:=q_lt hQr
       have HQr:=Lib.hid hQr
       subst hgk
       clear hown6 hc3 hc4 hQr
       go_upto_region 12 with fail
       have msz:(wr.alloc (.cells #[.int .i64 (cc:Int),.int .i64 x] 67)).heap.size=wr.heap.size+1:=by simp only[World.size_alloc]
       have mB:Below wr.heap.size wr (wr.alloc (.cells #[.int .i64 (cc:Int),.int .i64 x] 67)):=(Below.refl _ _).alloc (Nat.le_refl _) _
       have mq0:(wr.alloc (.cells #[.int .i64 (cc:Int),.int .i64 x] 67)).heap[wr.heap.size]?=some (.cells #[.int .i64 (cc:Int),.int .i64 x] 67 (0,0)):=by have h:=World.alloc_heap_new wr (.cells #[.int .i64 (cc:Int),.int .i64 x] 67);exact h
       generalize (wr.alloc (.cells #[.int .i64 (cc:Int),.int .i64 x] 67))=W6 at msz mB mq0 ⊢
       have HP6:=Lib.hid mq0
       have HRT6:=Lib.hid (hrt.out.keep mB)
       have hQ6:=keepq mB HQr.out
       have z0:W6.cell? ⟨w.heap.size,0,none⟩=some (.int .i64 cells):=q_cell hQ6 0
       have z1:W6.cell? ⟨w.heap.size,1,none⟩=some (.slice a n c):=q_cell hQ6 1
       have z2:W6.cell? ⟨w.heap.size,2,none⟩=some (.int .i64 sum):=q_cell hQ6 2
       have z3:W6.cell? ⟨w.heap.size,3,none⟩=some (.slice (some ⟨gb,0,none⟩) n' cg):=q_cell hQ6 3
       have zl:=q_lt hQ6
       have q0:W6.cell? ⟨wr.heap.size,0,none⟩=some (.int .i64 (cc:Int)):=q_cell mq0 0
       have q1:W6.cell? ⟨wr.heap.size,1,none⟩=some (.int .i64 x):=q_cell mq0 1
       have ql:=q_lt mq0
       obtain ⟨g8,cap8,x8,hv8,_,hc8,hf8,hg8,_⟩:=owns_free HRT6.out.og cc hcn
       simp only[Value.slice.injEq,Option.some.injEq,Addr.mk.injEq,true_and,and_true] at hv8
       obtain ⟨rfl,hcap8⟩:=hv8
       clear hcap8
       have hgew:=hrt.out.ge
       have hgw:gb<w.heap.size:=(HRT.out.og.lt gb rfl).2
       have hrw:=q_lt HRT.out.rd
       have hwwr:w.heap.size≤wr.heap.size:=hst.out.size
       have HQ6:=Lib.hid hQ6
       clear mq0 msz hQ6 hp0 hp1 hc9 hf9 hg9
       go_upto_region 13 with fail
       have HRT7:=Lib.hid (HRT6.out.put cc x)
       have t7:=q_other HQ6.out (b':=gb) (i:=cc) (by omega) (.int .i64 x)
       have p7:=q_other HP6.out (b':=gb) (i:=cc) (by omega) (.int .i64 x)
       have s7w:Stays (MT rb gb) w (W6.setCell ⟨gb,cc,none⟩ (.int .i64 x)):=(hst.out.trans (Below.stays mB (MT rb gb)) (fun _ e => .inl e)).trans (Stays.setCell (S:=MT rb gb) W6 (p:=⟨gb,cc,none⟩) (.inr rfl) _) (fun _ e => .inl e)
       have s75:Stays (MT rb gb) w5 (W6.setCell ⟨gb,cc,none⟩ (.int .i64 x)):=(hst5.out.trans (Below.stays mB (MT rb gb)) (fun _ e => .inl e)).trans (Stays.setCell (S:=MT rb gb) W6 (p:=⟨gb,cc,none⟩) (.inr rfl) _) (fun _ e => .inl e)
       clear z0 z1 z2 z3 zl q0 q1 ql hc8 hf8 hg8
       generalize (W6.setCell ⟨gb,cc,none⟩ (.int .i64 x))=W7 at HRT7 t7 p7 s7w s75 ⊢
       have z0:W7.cell? ⟨w.heap.size,0,none⟩=some (.int .i64 cells):=q_cell t7 0
       have z1:W7.cell? ⟨w.heap.size,1,none⟩=some (.slice a n c):=q_cell t7 1
       have z2:W7.cell? ⟨w.heap.size,2,none⟩=some (.int .i64 sum):=q_cell t7 2
       have z3:W7.cell? ⟨w.heap.size,3,none⟩=some (.slice (some ⟨gb,0,none⟩) n' cg):=q_cell t7 3
       have zl:=q_lt t7
       have HT7:=Lib.hid t7
       have HP7:=Lib.hid p7
       have HS7:=Lib.hid s7w
       have HS75:=Lib.hid s75
       clear t7 p7 s7w s75
       go_wp2_with fail
       refine (HIH.out (g.set cc x) ij W7 (HG.out.put (by omega) HC4.out) hij2 (by omega) HRT7.out).mono ?_
       rintro _ w8 ⟨i8,hi8,rfl,hR8,hrt8,hst8⟩
       clear z0 z1 z2 z3 zl
       have hT8:=stays_q hst8 HT7.out (by rintro (e|e) <;> omega)
       have hP8:=stays_q hst8 HP7.out (by rintro (e|e) <;> omega)
       have z3:w8.cell? ⟨w.heap.size,3,none⟩=some (.slice (some ⟨gb,0,none⟩) n' cg):=q_cell hT8 3
       have zl:=q_lt hT8
       have q0:w8.cell? ⟨wr.heap.size,0,none⟩=some (.int .i64 (cc:Int)):=q_cell hP8 0
       have ql:=q_lt hP8
       obtain ⟨g7,cap7,x7,hv7,_,hc7,hf7,hg7,_⟩:=owns_free hrt8.og cc hcn
       simp only[Value.slice.injEq,Option.some.injEq,Addr.mk.injEq,true_and,and_true] at hv7
       obtain ⟨rfl,hcap7⟩:=hv7
       clear hcap7
       have HRT9:=Lib.hid (hrt8.put cc 0)
       rw[List.set_set,set_back HC3.out] at HRT9
       have s9:Hid (Stays (MT rb gb) w (w8.setCell ⟨gb,cc,none⟩ (.int .i64 0))):=(HS7.out.trans hst8 (fun _ e => .inl e)).trans (Stays.setCell (S:=MT rb gb) w8 (p:=⟨gb,cc,none⟩) (.inr rfl) _) (fun _ e => .inl e)
       have s95:Hid (Stays (MT rb gb) w5 (w8.setCell ⟨gb,cc,none⟩ (.int .i64 0))):=(HS75.out.trans hst8 (fun _ e => .inl e)).trans (Stays.setCell (S:=MT rb gb) w8 (p:=⟨gb,cc,none⟩) (.inr rfl) _) (fun _ e => .inl e)
       clear hT8 hP8 hrt8 hst8
       cases hre:refT ls sum f (g.set cc x) (T.drop ij) with
       | none =>
        rw[hre] at HCO
        have HN:=Lib.hid (hRE.out.trans (hkr.out.trans HCO.out))
        clear hre
        dsimp only[Option.isSome]
        go_wp2_with fail
        go_ret
        exact ⟨i8,hi8,by rw[HN.out];rfl,fun R h=>(by rw[HN.out] at h;cases h),HRT9.out,s9.out⟩
       | some R =>
        have hRd:=hR8 R hre
        have hlen:=refT_lt ls sum f _ _ _ hre
        rw[hre] at HCO
        rw[hRd] at HCO hlen
        rw[List.length_drop,List.length_drop] at hlen
        have htn:=htl.out
        have hi9:ij≤i8:=by omega
        have HKR:=Lib.hid (hkr.out.trans HCO.out)
        clear hre hRd hlen htn hR8
        dsimp only[Option.isSome]
        go_wp2_with fail
        go_roundw
        case rel=>exact ⟨j+1,i8,by omega,by go_num,by omega,hi8,HKR.out,HRT9.out,s9.out,s95.out⟩
        case measure=>simp[intOf];omega
      ·have e:j=(kidsN g d).length:=by omega
       subst e
       have hk2:=hkr.out
       rw[List.drop_length] at hk2
       have HK2:=Lib.hid (hRE.out.trans hk2)
       clear hk2
       go_wp2_with fail
       go_ret
       exact ⟨ij,hij2,by rw[HK2.out];rfl,fun R h=>(by rw[HK2.out] at h;exact (Option.some.inj h).symm),hrt.out,hst.out⟩
end
section
open Go Go.RowKit
attribute [local go_sem] over_cell
attribute [local go_sem] Oper.semAt_some
theorem proves_c {cells:Int} {ls:List (List Int)} {sum:Int} {g:List Int} (G:GoodTask cells ls sum g) (a:Option Addr) (n c:Nat) (a':Option Addr) (n' c':Nat) (at':Option Addr) (nt ct:Nat) (T:List Nd) (w:World) (h:RC w a n ls) (h':IC w a' n' g) (ht:TC w at' nt T) :
  Calls Tryz.prog 76 #[.agg #[.int .i64 cells,.slice a n c,.int .i64 sum,.slice a' n' c'],.slice at' nt ct] w fun e w'=>e = .returned (.bool (provesT ls sum g T))∧Below w.heap.size w w':=by
 have H:=Lib.hid h
 have HT:=Lib.hid ht
 have HG:=Lib.hid G
 have hgl:=h'.len
 have htl:=Lib.hid ht.1.1
 have hns:=ht.1.2
 have hn2:n'≤256:=by have:=G.glen;omega
 have hgl1:0<n':=by have:=G.len;have:=G.cells1;omega
 have HCL:=Lib.hid (fun W (hb:Below w.heap.size w W)=>clone_c a' n' c' g W (h'.mono hb))
 have hPE:Hid (provesT ls sum g T=match refT ls sum (T.length+1) g T with|some []=>true|_=>false):=rfl
 clear h h' ht G
 go_enter Tryz.func76,Tryz.ntmps76
 go_wp2_with fail
 have fsz:(w.alloc (.cells #[.int .i64 cells,.slice a n c,.int .i64 sum,.slice a' n' c'] 27)).heap.size=w.heap.size+1:=by simp only[World.size_alloc]
 have fB:Below w.heap.size w (w.alloc (.cells #[.int .i64 cells,.slice a n c,.int .i64 sum,.slice a' n' c'] 27)):=(Below.refl _ _).alloc (Nat.le_refl _) _
 have fq0:(w.alloc (.cells #[.int .i64 cells,.slice a n c,.int .i64 sum,.slice a' n' c'] 27)).heap[w.heap.size]?=some (.cells #[.int .i64 cells,.slice a n c,.int .i64 sum,.slice a' n' c'] 27 (0,0)):=by have h:=World.alloc_heap_new w (.cells #[.int .i64 cells,.slice a n c,.int .i64 sum,.slice a' n' c'] 27);exact h
 generalize (w.alloc (.cells #[.int .i64 cells,.slice a n c,.int .i64 sum,.slice a' n' c'] 27))=W0 at fsz fB fq0 ⊢
 have HQ0:=Lib.hid fq0
 have fsz':w.heap.size<W0.heap.size:=by omega
 clear fq0 fsz
 refine (HCL.out W0 fB).mono ?_
 rintro _ w5 ⟨v5,rfl,hown5,hb5⟩
 rw[hgl] at hown5
 obtain ⟨a5,c5,rfl⟩:=owns_shape hown5
 obtain ⟨gb,cur,rfl,hgb,_⟩:=owns_blk hown5 hgl1
 have qT:=keepq hb5 HQ0.out
 have z3:w5.cell? ⟨w.heap.size,3,none⟩=some (.slice a' n' c'):=q_cell qT 3
 have zf3:=q_free qT 3
 have zl:=q_lt qT
 go_upto_region 2 with fail
 have q6:=q_set (i:=3) qT (.slice (some ⟨gb,0,none⟩) n' c5)
 have o6:(w5.setCell ⟨w.heap.size,3,none⟩ (.slice (some ⟨gb,0,none⟩) n' c5)).ownsRow 0 3 1 (.slice (some ⟨gb,0,none⟩) n' c5) n' (g.map (Value.int .i64)):=owns_keep (owns_base hown5 (Nat.zero_le _)) (fun i e _=>Below.heap_setCell _ _ _ _ (fun e2=>by simp only[Value.ownBlock,Option.some.injEq] at e;simp at e2;omega))
 have hB6:Below w.heap.size w (w5.setCell ⟨w.heap.size,3,none⟩ (.slice (some ⟨gb,0,none⟩) n' c5)):=(fB.trans (hb5.mono fB.size)).setCell (p:=⟨w.heap.size,3,none⟩) (Nat.le_refl _) _
 have hg6:gb<(w5.setCell ⟨w.heap.size,3,none⟩ (.slice (some ⟨gb,0,none⟩) n' c5)).heap.size:=(o6.lt gb rfl).2
 clear hown5 qT z3 zf3 zl HCL
 generalize (w5.setCell ⟨w.heap.size,3,none⟩ (.slice (some ⟨gb,0,none⟩) n' c5))=w6 at q6 o6 hB6 hg6 ⊢
 replace q6:w6.heap[w.heap.size]?=some (.cells #[.int .i64 cells,.slice a n c,.int .i64 sum,.slice (some ⟨gb,0,none⟩) n' c5] 27 (0,0)):=q6
 have z0:w6.cell? ⟨w.heap.size,0,none⟩=some (.int .i64 cells):=q_cell q6 0
 have z1:w6.cell? ⟨w.heap.size,1,none⟩=some (.slice a n c):=q_cell q6 1
 have z2:w6.cell? ⟨w.heap.size,2,none⟩=some (.int .i64 sum):=q_cell q6 2
 have z3:w6.cell? ⟨w.heap.size,3,none⟩=some (.slice (some ⟨gb,0,none⟩) n' c5):=q_cell q6 3
 have zl:=q_lt q6
 go_wp2_with fail
 have ksz:(w6.alloc (.cells #[.slice at' nt ct,.int .i64 0] 129)).heap.size=w6.heap.size+1:=by simp only[World.size_alloc]
 have kB:Below w6.heap.size w6 (w6.alloc (.cells #[.slice at' nt ct,.int .i64 0] 129)):=(Below.refl _ _).alloc (Nat.le_refl _) _
 have kq0:(w6.alloc (.cells #[.slice at' nt ct,.int .i64 0] 129)).heap[w6.heap.size]?=some (.cells #[.slice at' nt ct,.int .i64 0] 129 (0,0)):=by have h:=World.alloc_heap_new w6 (.cells #[.slice at' nt ct,.int .i64 0] 129);exact h
 generalize (w6.alloc (.cells #[.slice at' nt ct,.int .i64 0] 129))=W7 at ksz kB kq0 ⊢
 have hz6:=hB6.size
 have hRT:RT w W7 w6.heap.size gb c5 at' nt ct 0 n' g:=⟨hB6.trans (kB.mono hz6),kq0,owns_keep o6 (fun i _ hl=>kB.block i hl),⟨by omega,by omega,by omega⟩⟩
 have HRT:=Lib.hid hRT
 clear z0 z1 z2 z3 zl q6 o6 kq0 ksz hRT
 refine (refuted_c w w6.heap.size gb c5 a n c n' H.out hn2 at' nt ct T HT.out (T.length+1) g 0 W7 HG.out (Nat.zero_le _) (by rw[htl.out];omega) HRT.out).mono ?_
 rintro _ w8 ⟨i8,hi8,rfl,hR8,hrt8,hst8⟩
 rw[List.drop_zero] at hR8 ⊢
 have hB8:=hrt8.below
 have c0:w8.cell? ⟨w6.heap.size,0,none⟩=some (.slice at' nt ct):=q_cell hrt8.rd 0
 have c1:w8.cell? ⟨w6.heap.size,1,none⟩=some (.int .i64 (i8:Nat)):=q_cell hrt8.rd 1
 have cl:=q_lt hrt8.rd
 clear hrt8 hst8
 cases hre:refT ls sum (T.length+1) g T with
 | none =>
  rw[hre] at hPE
  clear hre
  dsimp only[Option.isSome]
  go_wp2_with fail
  go_ret
  exact ⟨ret_bool hPE.out.symm,hB8⟩
 | some R =>
  have hRd:=hR8 R hre
  rw[hre] at hPE
  have HE:Hid (((((i8:Nat):Int))==((nt:Nat):Int))=provesT ls sum g T):=by
   unfold Hid
   rw[hPE.out,hRd]
   have hl:=htl.out
   by_cases e:i8=nt
   ·subst e
    rw[List.drop_eq_nil_of_le (by omega)]
    simp
   ·have h1:T.drop i8≠[]:=fun h=>by have:=congrArg List.length h;rw[List.length_drop] at this;simp at this;omega
    cases hd:T.drop i8 with
    | nil=>exact absurd hd h1
    | cons x r=>rw[beq_eq_false_iff_ne];omega
  clear hre hRd hPE hR8
  dsimp only[Option.isSome]
  go_wp2_with fail
  go_ret
  exact ⟨ret_bool HE.out,hB8⟩
def refErr (cells:Int) (ls:List (List Int)) (sum:Int) (g:List Int) (T:List Nd):Int :=
 if taskErr cells ls sum g≠0 then taskErr cells ls sum g else if treeErr g.length T≠0 then treeErr g.length T else whenV (!provesT ls sum g T) 19
theorem checkref_c (a:Option Addr) (n c:Nat) (ls:List (List Int)) (cells sum:Int) (a':Option Addr) (n' c':Nat) (g:List Int) (at':Option Addr) (nt ct:Nat) (T:List Nd) (w:World) (h:RC w a n ls) (hcap:n≤c) (h':IC w a' n' g) (hcap':n'≤c') (ht:TC w at' nt T) :
  Calls Tryz.prog 32 #[.agg #[.int .i64 cells,.slice a n c,.int .i64 sum,.slice a' n' c'],.slice at' nt ct] w fun e w'=>e = .returned (.int .i64 (refErr cells ls sum g T))∧Below w.heap.size w w':=by
 have HTK:=Lib.hid (fun w1 (hb:Below w.heap.size w w1)=>task_c a n c ls cells sum a' n' c' g w1 (h.mono hb) hcap (h'.mono hb) hcap')
 have HTR:=Lib.hid (fun w1 (hb:Below w.heap.size w w1)=>tree_c (.int .i64 cells) (.slice a n c) (.int .i64 sum) a' n' c' at' nt ct T w1 (ht.mono hb))
 have HPR:=Lib.hid (fun (G:GoodTask cells ls sum g) w1 (hb:Below w.heap.size w w1)=>proves_c G a n c a' n' c' at' nt ct T w1 (h.mono hb) (h'.mono hb) (ht.mono hb))
 have hgl:=Lib.hid h'.len
 clear h h' ht
 go_enter Tryz.func32,Tryz.ntmps32
 go_wp2_with fail
 have fsz:(w.alloc (.cells #[.int .i64 cells,.slice a n c,.int .i64 sum,.slice a' n' c'] 27)).heap.size=w.heap.size+1:=by simp only[World.size_alloc]
 have fB:Below w.heap.size w (w.alloc (.cells #[.int .i64 cells,.slice a n c,.int .i64 sum,.slice a' n' c'] 27)):=(Below.refl _ _).alloc (Nat.le_refl _) _
 have fq0:(w.alloc (.cells #[.int .i64 cells,.slice a n c,.int .i64 sum,.slice a' n' c'] 27)).heap[w.heap.size]?=some (.cells #[.int .i64 cells,.slice a n c,.int .i64 sum,.slice a' n' c'] 27 (0,0)):=by have h:=World.alloc_heap_new w (.cells #[.int .i64 cells,.slice a n c,.int .i64 sum,.slice a' n' c'] 27);exact h
 generalize (w.alloc (.cells #[.int .i64 cells,.slice a n c,.int .i64 sum,.slice a' n' c'] 27))=W0 at fsz fB fq0 ⊢
 clear fsz
 refine (HTK.out W0 fB).mono ?_
 rintro _ w1 ⟨rfl,hb1⟩
 have hB1:=fB.trans (hb1.mono fB.size)
 have HQ1:=Lib.hid (keepq hb1 fq0)
 clear fq0
 by_cases he:taskErr cells ls sum g=0
 ·have x0:w1.cell? ⟨w.heap.size,0,none⟩=some (.int .i64 cells):=q_cell HQ1.out 0
  have x1:w1.cell? ⟨w.heap.size,1,none⟩=some (.slice a n c):=q_cell HQ1.out 1
  have x2:w1.cell? ⟨w.heap.size,2,none⟩=some (.int .i64 sum):=q_cell HQ1.out 2
  have x3:w1.cell? ⟨w.heap.size,3,none⟩=some (.slice a' n' c'):=q_cell HQ1.out 3
  have xl:=q_lt HQ1.out
  have HPG:=Lib.hid (HPR.out (goodTask he))
  have HE:Hid (refErr cells ls sum g T=if treeErr n' T≠0 then treeErr n' T else whenV (!provesT ls sum g T) 19):=by unfold Hid refErr;rw[if_neg (by simpa using he),hgl.out]
  rw[he]
  clear he HTK HPR
  go_wp2_with fail
  refine (HTR.out w1 hB1).mono ?_
  rintro _ w2 ⟨rfl,hb2⟩
  have hB2:=hB1.trans (hb2.mono hB1.size)
  have hQ2:=keepq hb2 HQ1.out
  clear x0 x1 x2 x3 xl
  by_cases h2:treeErr n' T=0
  ·rw[if_neg (by simpa using h2)] at HE
   rw[h2]
   have x0:w2.cell? ⟨w.heap.size,0,none⟩=some (.int .i64 cells):=q_cell hQ2 0
   have x1:w2.cell? ⟨w.heap.size,1,none⟩=some (.slice a n c):=q_cell hQ2 1
   have x2:w2.cell? ⟨w.heap.size,2,none⟩=some (.int .i64 sum):=q_cell hQ2 2
   have x3:w2.cell? ⟨w.heap.size,3,none⟩=some (.slice a' n' c'):=q_cell hQ2 3
   have xl:=q_lt hQ2
   clear h2 hQ2
   go_wp2_with fail
   refine (HPG.out w2 hB2).mono ?_
   rintro _ w3 ⟨rfl,hb3⟩
   go_wp2_with (go_at_call 66;refine (when_c _ _ _).mono ?_;rintro _ w4 ⟨rfl,rfl⟩)
   go_ret
   exact ⟨ret_int HE.out.symm,hB2.trans (hb3.mono hB2.size)⟩
  ·rw[if_pos h2] at HE
   have hne:(treeErr n' T != 0)=true:=by simpa using h2
   generalize treeErr n' T=er at *
   have HE9:=Lib.hid HE
   clear h2 HTR
   go_wp2_with fail
   go_ret
   exact ⟨ret_int HE.out.symm,hB2⟩
 ·have hne:(taskErr cells ls sum g != 0)=true:=by simpa using he
  have HE:Hid (refErr cells ls sum g T=taskErr cells ls sum g):=by unfold Hid refErr;rw[if_pos he]
  obtain ⟨er,her⟩:∃er,taskErr cells ls sum g=er:=⟨_,rfl⟩
  rw[her] at hne HE
  rw[her]
  clear he her HTK HPR HTR
  go_wp2_with fail
  go_ret
  exact ⟨ret_int HE.out.symm,hB1⟩
end
end Go.Proofs.YtaadpihbjhachaaGreat
