/- Texts Q9 to Q9 of this proof, in one file. -/
import Derived.Test.YtcblpobiefmjmaaGreatW20
import Derived.Test.YtcblpobiefmjmaaGreatW32
import Derived.Test.YtcblpobiefmjmaaGreatW56
import Derived.Test.YtcblpobiefmjmaaGreatW57
import Derived.Laws.StructEq
namespace Go.Proofs.YtcblpobiefmjmaaGreat
set_option maxRecDepth 100000
set_option maxHeartbeats 16000000
section
open Go Go.RowKit
attribute [local go_sem] over_cell
attribute [local go_sem] Oper.semAt_some
theorem sameT_refl9 (A:List (List Int)):sameT A A=true:=by simp[sameT]
theorem candL_short {M:Nat} {Ms:List Nat}:∀l,l∈candL M Ms→l.length≤17592186044416:=by
 intro l hl
 unfold candL at hl
 split at hl
 ·obtain ⟨x,_,e⟩:=List.mem_map.1 hl
  rw[← e]
  simp
 ·obtain ⟨x,_,e⟩:=List.mem_map.1 hl
  rw[← e]
  have:=elemsM_len x
  omega
theorem frules_c (a:Option Addr) (n c:Nat) (ls:List (List Int)) (cells sum:Int) (a':Option Addr) (n' c':Nat) (g:List Int) (w:World) (h:RC w a n ls) (hcap:n≤c) (h':IC w a' n' g) (hcap':n'≤c') :
  Calls Tryz.prog 5 #[.agg #[.int .i64 cells,.slice a n c,.int .i64 sum,.slice a' n' c']] w fun e w'=>e = .returned (.bool true)∧Below w.heap.size w w':=by
 have HA:=Lib.hid awake_c
 have HLI:=Lib.hid (fun w1 (hb:Below w.heap.size w w1)=>light_c a n c ls cells sum a' n' c' g 9 w1 (h.mono hb) hcap (h'.mono hb) hcap')
 have HCT:=Lib.hid (fun w1 (hb:Below w.heap.size w w1)=>rtask_c a n c ls cells sum a' n' c' g w1 (h.mono hb) hcap (h'.mono hb) hcap')
 have HOP:=Lib.hid (fun w1 (hb:Below w.heap.size w w1)=>ropen_c (.slice a n c) cells sum a' n' c' g w1 (h'.mono hb))
 have HCA:=Lib.hid (fun w1 (hb:Below w.heap.size w w1)=>cand_c a n c ls cells sum a' n' c' g w1 (h.mono hb) hcap (h'.mono hb) hcap')
 have HRE:=Lib.hid (fun w1 (hb:Below w.heap.size w w1)=>reasons_c a n c ls cells sum a' n' c' g w1 (h.mono hb) hcap (h'.mono hb) hcap')
 have HRU:=Lib.hid (fun (G:GoodTask cells ls sum g) w1 (hb:Below w.heap.size w w1)=>rrules_c G a n c a' n' c' w1 (h.mono hb) (h'.mono hb))
 have HGT:Hid (taskErr cells ls sum g=0→GoodTask cells ls sum g):=fun e=>goodTask e
 have hgl:=Lib.hid h'.len
 clear h h'
 generalize lightB 9 cells sum ls g=lb at HLI
 obtain ⟨te,hte⟩:∃x,taskErr cells ls sum g=x:=⟨_,rfl⟩
 rw[hte] at HGT HCT HCA HRE
 clear hte
 obtain ⟨no,hno⟩:∃x,(openL g).length=x:=⟨_,rfl⟩
 rw[hno] at HOP
 clear hno
 go_enter Tryz.func5,Tryz.ntmps5
 go_upto_region 2 with fail
 have fsz:((w.alloc (.cells #[.int .i64 cells,.slice a n c,.int .i64 sum,.slice a' n' c'] 27)).alloc (.cells #[.int .i64 cells,.slice a n c,.int .i64 sum,.slice a' n' c'] 28)).heap.size=w.heap.size+2:=by simp only[World.size_alloc] <;> omega
 have fB:Below w.heap.size w ((w.alloc (.cells #[.int .i64 cells,.slice a n c,.int .i64 sum,.slice a' n' c'] 27)).alloc (.cells #[.int .i64 cells,.slice a n c,.int .i64 sum,.slice a' n' c'] 28)):=((Below.refl _ _).alloc (Nat.le_refl _) _).alloc (by simp only[World.size_alloc];omega) _
 have fq0:((w.alloc (.cells #[.int .i64 cells,.slice a n c,.int .i64 sum,.slice a' n' c'] 27)).alloc (.cells #[.int .i64 cells,.slice a n c,.int .i64 sum,.slice a' n' c'] 28)).heap[w.heap.size]?=some (.cells #[.int .i64 cells,.slice a n c,.int .i64 sum,.slice a' n' c'] 27 (0,0)):=by have h:=World.alloc_heap_new w (.cells #[.int .i64 cells,.slice a n c,.int .i64 sum,.slice a' n' c'] 27);exact (Below.heap_alloc _ _ _ (by simp only[World.size_alloc];omega)).trans (h)
 have fq1:((w.alloc (.cells #[.int .i64 cells,.slice a n c,.int .i64 sum,.slice a' n' c'] 27)).alloc (.cells #[.int .i64 cells,.slice a n c,.int .i64 sum,.slice a' n' c'] 28)).heap[w.heap.size+1]?=some (.cells #[.int .i64 cells,.slice a n c,.int .i64 sum,.slice a' n' c'] 28 (0,0)):=by have h:=World.alloc_heap_new (w.alloc (.cells #[.int .i64 cells,.slice a n c,.int .i64 sum,.slice a' n' c'] 27)) (.cells #[.int .i64 cells,.slice a n c,.int .i64 sum,.slice a' n' c'] 28);simp only[World.size_alloc] at h;exact h
 generalize ((w.alloc (.cells #[.int .i64 cells,.slice a n c,.int .i64 sum,.slice a' n' c'] 27)).alloc (.cells #[.int .i64 cells,.slice a n c,.int .i64 sum,.slice a' n' c'] 28))=W0 at fsz fB fq0 fq1 ⊢
 have HY:=Lib.hid (fun W (hb:Below W0.heap.size W0 W)=>l4 (keepq hb fq0))
 have HX:=Lib.hid (fun W (hb:Below W0.heap.size W0 W)=>l4 (keepq hb fq1))
 have hcur:Below W0.heap.size W0 W0:=Below.refl _ _
 obtain ⟨y0,y1,y2,y3,yl⟩:=HY.out _ hcur
 obtain ⟨x0,x1,x2,x3,xl⟩:=HX.out _ hcur
 clear fq0 fq1 fsz
 cases lb with
 | false =>
  go_wp2_with (first|(go_at_call 24;refine (HLI.out _ (keep_trans fB hcur)).mono ?_;rintro _ w1 ⟨rfl,hb1⟩;replace hcur:=keep_trans hcur hb1;clear y0 y1 y2 y3 yl;obtain ⟨y0,y1,y2,y3,yl⟩:=HY.out _ hcur;clear x0 x1 x2 x3 xl;obtain ⟨x0,x1,x2,x3,xl⟩:=HX.out _ hcur)|(go_at_call 17;refine (HA.out _).mono ?_;rintro _ w1 ⟨rfl,hb1⟩;replace hcur:=keep_trans hcur hb1))
  go_ret
  exact ⟨rfl,keep_trans fB hcur⟩
 | true =>
  by_cases he:te=0
  ·have G:=HGT.out he
   have HRU:=Lib.hid (HRU.out G)
   subst he
   clear G HGT
   by_cases hc9:(9:Int)<cells
   ·by_cases hn6:(6:Int)<(no:Int)
    ·go_wp2_with (first|(go_at_call 24;refine (HLI.out _ (keep_trans fB hcur)).mono ?_;rintro _ w1 ⟨rfl,hb1⟩;replace hcur:=keep_trans hcur hb1;clear y0 y1 y2 y3 yl;obtain ⟨y0,y1,y2,y3,yl⟩:=HY.out _ hcur;clear x0 x1 x2 x3 xl;obtain ⟨x0,x1,x2,x3,xl⟩:=HX.out _ hcur)|(go_at_call 15;refine (HCT.out _ (keep_trans fB hcur)).mono ?_;rintro _ w1 ⟨rfl,hb1⟩;replace hcur:=keep_trans hcur hb1;clear y0 y1 y2 y3 yl;obtain ⟨y0,y1,y2,y3,yl⟩:=HY.out _ hcur;clear x0 x1 x2 x3 xl;obtain ⟨x0,x1,x2,x3,xl⟩:=HX.out _ hcur)|(go_at_call 16;refine (HOP.out _ (keep_trans fB hcur)).mono ?_;rintro _ w1 ⟨vo,rfl,hown,hb1⟩;obtain ⟨ao,co,rfl⟩:=owns_shape hown;replace hcur:=keep_trans hcur hb1;clear y0 y1 y2 y3 yl;obtain ⟨y0,y1,y2,y3,yl⟩:=HY.out _ hcur;clear x0 x1 x2 x3 xl;obtain ⟨x0,x1,x2,x3,xl⟩:=HX.out _ hcur)|(go_at_call 17;refine (HA.out _).mono ?_;rintro _ w1 ⟨rfl,hb1⟩;replace hcur:=keep_trans hcur hb1))
     go_ret
     exact ⟨rfl,keep_trans fB hcur⟩
    ·go_upto_region 4 with (first|(go_at_call 24;refine (HLI.out _ (keep_trans fB hcur)).mono ?_;rintro _ w1 ⟨rfl,hb1⟩;replace hcur:=keep_trans hcur hb1;clear y0 y1 y2 y3 yl;obtain ⟨y0,y1,y2,y3,yl⟩:=HY.out _ hcur;clear x0 x1 x2 x3 xl;obtain ⟨x0,x1,x2,x3,xl⟩:=HX.out _ hcur)|(go_at_call 15;refine (HCT.out _ (keep_trans fB hcur)).mono ?_;rintro _ w1 ⟨rfl,hb1⟩;replace hcur:=keep_trans hcur hb1;clear y0 y1 y2 y3 yl;obtain ⟨y0,y1,y2,y3,yl⟩:=HY.out _ hcur;clear x0 x1 x2 x3 xl;obtain ⟨x0,x1,x2,x3,xl⟩:=HX.out _ hcur)|(go_at_call 16;refine (HOP.out _ (keep_trans fB hcur)).mono ?_;rintro _ w1 ⟨vo,rfl,hown,hb1⟩;obtain ⟨ao,co,rfl⟩:=owns_shape hown;replace hcur:=keep_trans hcur hb1;clear y0 y1 y2 y3 yl;obtain ⟨y0,y1,y2,y3,yl⟩:=HY.out _ hcur;clear x0 x1 x2 x3 xl;obtain ⟨x0,x1,x2,x3,xl⟩:=HX.out _ hcur))
     clear hn6
     go_wp2_with fail
     refine (HCA.out _ (keep_trans fB hcur)).mono ?_
     rintro _ w1 ⟨ar,nr,cr,rfl,_,hC,hcr,hb1⟩
     obtain ⟨k1,hend1,hRC⟩:=hC trivial
     have HC:=Lib.hid hRC
     replace hcur:=keep_trans hcur hb1
     clear hC hRC
     clear y0 y1 y2 y3 yl
     obtain ⟨y0,y1,y2,y3,yl⟩:=HY.out _ hcur
     clear x0 x1 x2 x3 xl
     obtain ⟨x0,x1,x2,x3,xl⟩:=HX.out _ hcur
     go_wp2_with fail
     refine (HRE.out _ (keep_trans fB hcur)).mono ?_
     rintro _ w1 ⟨ar2,nr2,cr2,rfl,_,hR,hcr2,hb1⟩
     obtain ⟨k2,hend2,hRM⟩:=hR trivial
     rw[iterR_uniq hend2 hend1] at hRM
     replace HC:=Lib.hid (HC.out.mono hb1)
     have HR:=Lib.hid hRM
     replace hcur:=keep_trans hcur hb1
     clear hR hRM hend2 HRE HCA
     clear y0 y1 y2 y3 yl
     obtain ⟨y0,y1,y2,y3,yl⟩:=HY.out _ hcur
     clear x0 x1 x2 x3 xl
     obtain ⟨x0,x1,x2,x3,xl⟩:=HX.out _ hcur
     go_wp2_with fail
     refine (HCT.out _ (keep_trans fB hcur)).mono ?_
     rintro _ w1 ⟨rfl,hb1⟩
     replace HC:=Lib.hid (HC.out.mono hb1)
     replace HR:=Lib.hid (HR.out.mono hb1)
     replace hcur:=keep_trans hcur hb1
     clear y0 y1 y2 y3 yl
     obtain ⟨y0,y1,y2,y3,yl⟩:=HY.out _ hcur
     clear x0 x1 x2 x3 xl
     obtain ⟨x0,x1,x2,x3,xl⟩:=HX.out _ hcur
     go_wp2_with fail
     refine (HRU.out _ (keep_trans fB hcur)).mono ?_
     rintro _ w1 ⟨k3,ar3,nr3,cr3,v3,pre,rfl,hend3,hRM3,hrow,hpre,hb1⟩
     rw[hgl.out] at hend3 hRM3 hpre
     rw[iterR_uniq hend3 hend1] at hRM3 hpre
     replace HC:=Lib.hid (HC.out.mono hb1)
     replace HR:=Lib.hid (HR.out.mono hb1)
     replace hcur:=keep_trans hcur hb1
     have hpl:pre.length=nr:=by
      have h1:=congrArg List.length hpre
      rw[List.length_map,HC.out.len] at h1
      exact h1
     have hrs:=HC.out.small
     obtain ⟨a9,c9,e9,hrc,hc9⟩:=hrow.rc (by omega) (fun x hx=>candL_short x.2 (by rw[← hpre];exact List.mem_map_of_mem hx))
     subst e9
     rw[hpre,hpl] at hrc
     rw[hpl]
     have HTB:=Lib.hid (table_c ar a9 nr nr cr c9 _ _ w1 HC.out hrc)
     rw[sameT_refl9] at HTB
     have HRL3:=Lib.hid hRM3
     have hn23:nr3=nr2:=by have h1:=HR.out.1.1;have h2:=hRM3.1.1;omega
     subst hn23
     generalize (iterR ls sum (allM n') k1 (begL g)).1=RL at HR HRL3
     have HR3:=Lib.hid (show RM w1 ar3 nr3 RL from HRL3.out)
     have hwf:Below w1.heap.size w1 w1:=Below.refl _ _
     have HCUR:=Lib.hid (keep_trans fB hcur)
     clear hend1 hend3 hRM3 hpre hrow hrc HRL3 HC HCT HRU y0 y1 y2 y3 yl x0 x1 x2 x3 xl HX HY hcur hb1 hpl
     go_wp2_with fail
     refine HTB.out.mono ?_
     rintro _ w2 ⟨rfl,hb2⟩
     have hr2:=HR.out.1.2
     go_wp2_with fail
     go_loopw [11,95] (fun _ iv wr=>∃k:Nat,k≤nr3∧iv = .int .i64 k∧Below w2.heap.size w2 wr) (fun _ iv _=>nr3 - (intOf iv).toNat)
     case atStart=>exact ⟨0,by omega,rfl,Below.refl _ _⟩
     case round =>
      obtain ⟨k,hk,rfl,hbr⟩:=hrel
      have hbw:=keep_trans hb2 hbr
      by_cases hlt:k<nr3
      ·have hki:(k:Int)<(nr3:Int):=by omega
       obtain ⟨b5,o5,rfl,l5,c5⟩:=(HR.out.mono hbw).2 k hlt
       obtain ⟨b6,o6,rfl,l6,c6⟩:=(HR3.out.mono hbw).2 k hlt
       generalize RL[k]?.getD default=r at c5 c6
       obtain ⟨q,x,y,z⟩:=r
       obtain ⟨S,hS⟩:=ruleS_str q
       simp only[remA,hS] at c5 c6
       have d0:wr.cell? ⟨b5,o5+k*4,none⟩=some (.string S):=c5 0 _ rfl
       have d1:=c5 1 _ rfl
       have d2:=c5 2 _ rfl
       have d3:=c5 3 _ rfl
       have f0:wr.cell? ⟨b6,o6+k*4,none⟩=some (.string S):=c6 0 _ rfl
       have f1:=c6 1 _ rfl
       have f2:=c6 2 _ rfl
       have f3:=c6 3 _ rfl
       clear c5 c6 hS
       go_wp2_with fail
       refine wp_region_S (fun w'=>∃u,w'=over (wr) u) [] [(0,0),(0,1),(0,2),(0,3),(0,4),(0,5),(0,6),(0,7),(0,8)] (by kernel_rfl) (by kernel_rfl) (by exact ⟨_,below_over (by repeat (first|assumption|exact Below.refl _ _|refine keep_drew ?_|refine keep_alloc ?_ _|refine keep_trans ?_ (by assumption)))⟩) ?_
       dsimp only[pickOps,nthOp]
       repeat (first|(refine wpS_skip rfl (fun K hK=>?_);go_big_quiet_op;refine hK _ ?_;clear hK K)|(refine wpS_quiet rfl rfl (fun K hK=>?_);go_big_quiet_op;refine hK _ ?_;clear hK K))
       refine wpS_end ?_
       go_wp2_with fail
       go_roundw
       case rel=>exact ⟨k+1,by omega,by go_num,hbr.drew⟩
       case measure=>simp[intOf];omega
      ·have hki:¬(k:Int)<(nr3:Int):=by omega
       go_wp2_with (first|(go_at_call 17;refine (HA.out _).mono ?_;rintro _ w3 ⟨rfl,hb3⟩))
       go_ret
       exact ⟨rfl,keep_trans (keep_trans HCUR.out hbw) hb3⟩
   ·go_upto_region 4 with (first|(go_at_call 24;refine (HLI.out _ (keep_trans fB hcur)).mono ?_;rintro _ w1 ⟨rfl,hb1⟩;replace hcur:=keep_trans hcur hb1;clear y0 y1 y2 y3 yl;obtain ⟨y0,y1,y2,y3,yl⟩:=HY.out _ hcur;clear x0 x1 x2 x3 xl;obtain ⟨x0,x1,x2,x3,xl⟩:=HX.out _ hcur)|(go_at_call 15;refine (HCT.out _ (keep_trans fB hcur)).mono ?_;rintro _ w1 ⟨rfl,hb1⟩;replace hcur:=keep_trans hcur hb1;clear y0 y1 y2 y3 yl;obtain ⟨y0,y1,y2,y3,yl⟩:=HY.out _ hcur;clear x0 x1 x2 x3 xl;obtain ⟨x0,x1,x2,x3,xl⟩:=HX.out _ hcur))
    go_wp2_with fail
    refine (HCA.out _ (keep_trans fB hcur)).mono ?_
    rintro _ w1 ⟨ar,nr,cr,rfl,_,hC,hcr,hb1⟩
    obtain ⟨k1,hend1,hRC⟩:=hC trivial
    have HC:=Lib.hid hRC
    replace hcur:=keep_trans hcur hb1
    clear hC hRC
    clear y0 y1 y2 y3 yl
    obtain ⟨y0,y1,y2,y3,yl⟩:=HY.out _ hcur
    clear x0 x1 x2 x3 xl
    obtain ⟨x0,x1,x2,x3,xl⟩:=HX.out _ hcur
    go_wp2_with fail
    refine (HRE.out _ (keep_trans fB hcur)).mono ?_
    rintro _ w1 ⟨ar2,nr2,cr2,rfl,_,hR,hcr2,hb1⟩
    obtain ⟨k2,hend2,hRM⟩:=hR trivial
    rw[iterR_uniq hend2 hend1] at hRM
    replace HC:=Lib.hid (HC.out.mono hb1)
    have HR:=Lib.hid hRM
    replace hcur:=keep_trans hcur hb1
    clear hR hRM hend2 HRE HCA
    clear y0 y1 y2 y3 yl
    obtain ⟨y0,y1,y2,y3,yl⟩:=HY.out _ hcur
    clear x0 x1 x2 x3 xl
    obtain ⟨x0,x1,x2,x3,xl⟩:=HX.out _ hcur
    go_wp2_with fail
    refine (HCT.out _ (keep_trans fB hcur)).mono ?_
    rintro _ w1 ⟨rfl,hb1⟩
    replace HC:=Lib.hid (HC.out.mono hb1)
    replace HR:=Lib.hid (HR.out.mono hb1)
    replace hcur:=keep_trans hcur hb1
    clear y0 y1 y2 y3 yl
    obtain ⟨y0,y1,y2,y3,yl⟩:=HY.out _ hcur
    clear x0 x1 x2 x3 xl
    obtain ⟨x0,x1,x2,x3,xl⟩:=HX.out _ hcur
    go_wp2_with fail
    refine (HRU.out _ (keep_trans fB hcur)).mono ?_
    rintro _ w1 ⟨k3,ar3,nr3,cr3,v3,pre,rfl,hend3,hRM3,hrow,hpre,hb1⟩
    rw[hgl.out] at hend3 hRM3 hpre
    rw[iterR_uniq hend3 hend1] at hRM3 hpre
    replace HC:=Lib.hid (HC.out.mono hb1)
    replace HR:=Lib.hid (HR.out.mono hb1)
    replace hcur:=keep_trans hcur hb1
    have hpl:pre.length=nr:=by
     have h1:=congrArg List.length hpre
     rw[List.length_map,HC.out.len] at h1
     exact h1
    have hrs:=HC.out.small
    obtain ⟨a9,c9,e9,hrc,hc9⟩:=hrow.rc (by omega) (fun x hx=>candL_short x.2 (by rw[← hpre];exact List.mem_map_of_mem hx))
    subst e9
    rw[hpre,hpl] at hrc
    rw[hpl]
    have HTB:=Lib.hid (table_c ar a9 nr nr cr c9 _ _ w1 HC.out hrc)
    rw[sameT_refl9] at HTB
    have HRL3:=Lib.hid hRM3
    have hn23:nr3=nr2:=by have h1:=HR.out.1.1;have h2:=hRM3.1.1;omega
    subst hn23
    generalize (iterR ls sum (allM n') k1 (begL g)).1=RL at HR HRL3
    have HR3:=Lib.hid (show RM w1 ar3 nr3 RL from HRL3.out)
    have hwf:Below w1.heap.size w1 w1:=Below.refl _ _
    have HCUR:=Lib.hid (keep_trans fB hcur)
    clear hend1 hend3 hRM3 hpre hrow hrc HRL3 HC HCT HRU y0 y1 y2 y3 yl x0 x1 x2 x3 xl HX HY hcur hb1 hpl
    go_wp2_with fail
    refine HTB.out.mono ?_
    rintro _ w2 ⟨rfl,hb2⟩
    have hr2:=HR.out.1.2
    go_wp2_with fail
    go_loopw [11,95] (fun _ iv wr=>∃k:Nat,k≤nr3∧iv = .int .i64 k∧Below w2.heap.size w2 wr) (fun _ iv _=>nr3 - (intOf iv).toNat)
    case atStart=>exact ⟨0,by omega,rfl,Below.refl _ _⟩
    case round =>
     obtain ⟨k,hk,rfl,hbr⟩:=hrel
     have hbw:=keep_trans hb2 hbr
     by_cases hlt:k<nr3
     ·have hki:(k:Int)<(nr3:Int):=by omega
      obtain ⟨b5,o5,rfl,l5,c5⟩:=(HR.out.mono hbw).2 k hlt
      obtain ⟨b6,o6,rfl,l6,c6⟩:=(HR3.out.mono hbw).2 k hlt
      generalize RL[k]?.getD default=r at c5 c6
      obtain ⟨q,x,y,z⟩:=r
      obtain ⟨S,hS⟩:=ruleS_str q
      simp only[remA,hS] at c5 c6
      have d0:wr.cell? ⟨b5,o5+k*4,none⟩=some (.string S):=c5 0 _ rfl
      have d1:=c5 1 _ rfl
      have d2:=c5 2 _ rfl
      have d3:=c5 3 _ rfl
      have f0:wr.cell? ⟨b6,o6+k*4,none⟩=some (.string S):=c6 0 _ rfl
      have f1:=c6 1 _ rfl
      have f2:=c6 2 _ rfl
      have f3:=c6 3 _ rfl
      clear c5 c6 hS
      go_wp2_with fail
      refine wp_region_S (fun w'=>∃u,w'=over (wr) u) [] [(0,0),(0,1),(0,2),(0,3),(0,4),(0,5),(0,6),(0,7),(0,8)] (by kernel_rfl) (by kernel_rfl) (by exact ⟨_,below_over (by repeat (first|assumption|exact Below.refl _ _|refine keep_drew ?_|refine keep_alloc ?_ _|refine keep_trans ?_ (by assumption)))⟩) ?_
      dsimp only[pickOps,nthOp]
      repeat (first|(refine wpS_skip rfl (fun K hK=>?_);go_big_quiet_op;refine hK _ ?_;clear hK K)|(refine wpS_quiet rfl rfl (fun K hK=>?_);go_big_quiet_op;refine hK _ ?_;clear hK K))
      refine wpS_end ?_
      go_wp2_with fail
      go_roundw
      case rel=>exact ⟨k+1,by omega,by go_num,hbr.drew⟩
      case measure=>simp[intOf];omega
     ·have hki:¬(k:Int)<(nr3:Int):=by omega
      go_wp2_with (first|(go_at_call 17;refine (HA.out _).mono ?_;rintro _ w3 ⟨rfl,hb3⟩))
      go_ret
      exact ⟨rfl,keep_trans (keep_trans HCUR.out hbw) hb3⟩
  ·have hne:(te != 0)=true:=by simpa using he
   have hne2:(te==0)=false:=by simpa using he
   have HTE:=Lib.hid he
   clear HGT HRU he
   go_upto_region 4 with (first|(go_at_call 24;refine (HLI.out _ (keep_trans fB hcur)).mono ?_;rintro _ w1 ⟨rfl,hb1⟩;replace hcur:=keep_trans hcur hb1;clear y0 y1 y2 y3 yl;obtain ⟨y0,y1,y2,y3,yl⟩:=HY.out _ hcur;clear x0 x1 x2 x3 xl;obtain ⟨x0,x1,x2,x3,xl⟩:=HX.out _ hcur)|(go_at_call 15;refine (HCT.out _ (keep_trans fB hcur)).mono ?_;rintro _ w1 ⟨rfl,hb1⟩;replace hcur:=keep_trans hcur hb1;clear y0 y1 y2 y3 yl;obtain ⟨y0,y1,y2,y3,yl⟩:=HY.out _ hcur;clear x0 x1 x2 x3 xl;obtain ⟨x0,x1,x2,x3,xl⟩:=HX.out _ hcur))
   go_wp2_with fail
   refine (HCA.out _ (keep_trans fB hcur)).mono ?_
   rintro _ w1 ⟨ar,nr,cr,rfl,hC,_,hcr,hb1⟩
   obtain ⟨rfl,rfl⟩:=hC HTE.out
   replace hcur:=keep_trans hcur hb1
   clear hC
   clear y0 y1 y2 y3 yl
   obtain ⟨y0,y1,y2,y3,yl⟩:=HY.out _ hcur
   clear x0 x1 x2 x3 xl
   obtain ⟨x0,x1,x2,x3,xl⟩:=HX.out _ hcur
   go_wp2_with fail
   refine (HRE.out _ (keep_trans fB hcur)).mono ?_
   rintro _ w1 ⟨ar2,nr2,cr2,rfl,hR,_,hcr2,hb1⟩
   obtain ⟨rfl,rfl⟩:=hR HTE.out
   replace hcur:=keep_trans hcur hb1
   clear hR
   clear y0 y1 y2 y3 yl
   obtain ⟨y0,y1,y2,y3,yl⟩:=HY.out _ hcur
   clear x0 x1 x2 x3 xl
   obtain ⟨x0,x1,x2,x3,xl⟩:=HX.out _ hcur
   go_wp2_with (first|(go_at_call 15;refine (HCT.out _ (keep_trans fB hcur)).mono ?_;rintro _ w1 ⟨rfl,hb1⟩;replace hcur:=keep_trans hcur hb1;clear y0 y1 y2 y3 yl;obtain ⟨y0,y1,y2,y3,yl⟩:=HY.out _ hcur;clear x0 x1 x2 x3 xl;obtain ⟨x0,x1,x2,x3,xl⟩:=HX.out _ hcur)|(go_at_call 17;refine (HA.out _).mono ?_;rintro _ w1 ⟨rfl,hb1⟩;replace hcur:=keep_trans hcur hb1))
   go_ret
   exact ⟨rfl,keep_trans fB hcur⟩
end
end Go.Proofs.YtcblpobiefmjmaaGreat
