/- Texts H17 to H17 of this proof, in one file. -/
import Derived.Test.YtaadpihbjhachaaGreatW11
import Derived.Test.YtaadpihbjhachaaGreatW12
import Derived.Deep.CutBlock
import Derived.Deep.CutRange
namespace Go.Proofs.YtaadpihbjhachaaGreat
set_option maxRecDepth 100000
set_option maxHeartbeats 16000000
section
open Go Go.RowKit
attribute [local go_sem] over_cell
attribute [local go_sem] Oper.semAt_some
theorem infoPair:(Tryz.prog.info? 67).map (fun i=>(i.zero,i.size,i.bytes))=some (some (.agg #[.int .i64 0,.int .i64 0]),2,16):=by kernel_rfl
def pairsL:List (Int × Int)→List Value
 | []=>[]
 | p :: r=>[.int .i64 p.1,.int .i64 p.2]++pairsL r
theorem pairsL_snoc:∀(ks:List (Int × Int)) (p:Int × Int),pairsL (ks++[p])=pairsL ks++[.int .i64 p.1,.int .i64 p.2]
 | [],p=>by simp[pairsL]
 | _ :: r,p=>by simp[pairsL,pairsL_snoc r p]
theorem pairsL_len:∀ks:List (Int × Int),(pairsL ks).length=ks.length*2
 | []=>rfl
 | p :: r=>by
  have:=pairsL_len r
  simp only[pairsL,List.length_append,this,List.length_cons,List.length_nil]
  omega
theorem pairsL_get:∀(ks:List (Int × Int)) (k:Nat),k<ks.length→(pairsL ks)[k*2]?=some (.int .i64 (ks[k]?.getD (0,0)).1)∧(pairsL ks)[k*2+1]?=some (.int .i64 (ks[k]?.getD (0,0)).2)
 | p :: r,0,_=>⟨rfl,rfl⟩
 | p :: r,k+1,h=>by
  have ih:=pairsL_get r k (by simpa using h)
  simp only[pairsL]
  constructor
  ·rw[List.getElem?_append_right (by simp;omega),show (k+1)*2 - [Value.int .i64 p.1,Value.int .i64 p.2].length=k*2 from by simp;omega,ih.1]
   simp
  ·rw[List.getElem?_append_right (by simp;omega),show (k+1)*2+1 - [Value.int .i64 p.1,Value.int .i64 p.2].length=k*2+1 from by simp;omega,ih.2]
   simp
theorem cell_new2 (w:World) (x0 x1:Value) (T:TypeId):∀j u,[x0,x1][j]?=some u→(w.alloc (.cells #[x0,x1] T)).cell? ((⟨w.heap.size,0,none⟩:Addr).add j)=some u:=by
 intro j u hj
 have h:=box_cells w #[x0,x1] T j
 have hj2:(#[x0,x1]:Array Value)[j]?=some u:=by simpa using hj
 rw[hj2] at h
 rw[← h]
 unfold Addr.add
 split
 ·rename_i e;subst e;rfl
 ·simp
theorem kCell_l:kCell.toList=[99,101,108,108]:=by simp[kCell]
theorem kNumber_l:kNumber.toList=[110,117,109,98,101,114]:=by simp[kNumber]
theorem fine_cell {g:List Int} {d:Nd} (h:isK d.kind kCell=true):fineN g d=(d.line==0&&d.number==0&&decide (0≤d.cell)&&decide (d.cell<g.length)&&g[d.cell.toNat]?.getD 0==0)∧kidsN g d=(unusedL g).map fun x=>(d.cell,x):=by
 simp[fineN,kidsN,h]
theorem fine_number {g:List Int} {d:Nd} (h:isK d.kind kCell=false) (h2:isK d.kind kNumber=true):fineN g d=(d.line==0&&d.cell==0&&decide (1≤d.number)&&decide (d.number≤g.length)&&!hasB g d.number)∧kidsN g d=(openL g).map fun x=>(x,d.number):=by
 simp[fineN,kidsN,h,h2]
theorem fine_other {g:List Int} {d:Nd} (h:isK d.kind kCell=false) (h2:isK d.kind kNumber=false):fineN g d=false∧kidsN g d=[]:=by
 simp[fineN,kidsN,h,h2]
theorem kids_c (v1:Value) (cells sum:Int) (a':Option Addr) (n' c':Nat) (g:List Int) (d:Nd) (w:World) (h':IC w a' n' g) (hn:n'≤256) (hg:∀k:Nat,0≤g[k]?.getD 0∧g[k]?.getD 0≤256) :
  Calls Tryz.prog 151 #[.agg #[.int .i64 cells,v1,.int .i64 sum,.slice a' n' c'],.agg #[.string d.kind,.int .i64 d.cell,.int .i64 d.line,.int .i64 d.number,.int .i64 d.kids]] w fun e w'=>∃ar cr,e = .returned (.tuple #[.slice ar (kidsN g d).length cr,.bool (okN g d)])∧w'.ownsRow w.heap.size 67 2 (.slice ar (kidsN g d).length cr) (kidsN g d).length (pairsL (kidsN g d))∧Below w.heap.size w w':=by
 obtain ⟨i0,hi,hz0,hzz,hz2⟩:=info_parts infoPair
 have hgl:=Lib.hid h'.len
 have H':=Lib.hid h'
 have HG:=Lib.hid hg
 clear h' hg
 go_enter Tryz.func151,Tryz.ntmps151
 go_upto_region 4 with fail
 have fsz:((w.alloc (.cells #[.int .i64 cells,v1,.int .i64 sum,.slice a' n' c'] 27)).alloc (.cells #[.string d.kind,.int .i64 d.cell,.int .i64 d.line,.int .i64 d.number,.int .i64 d.kids] 104)).heap.size=w.heap.size+2:=by simp only[World.size_alloc] <;> omega
 have fB:Below w.heap.size w ((w.alloc (.cells #[.int .i64 cells,v1,.int .i64 sum,.slice a' n' c'] 27)).alloc (.cells #[.string d.kind,.int .i64 d.cell,.int .i64 d.line,.int .i64 d.number,.int .i64 d.kids] 104)):=((Below.refl _ _).alloc (Nat.le_refl _) _).alloc (by simp only[World.size_alloc];omega) _
 have fq0:((w.alloc (.cells #[.int .i64 cells,v1,.int .i64 sum,.slice a' n' c'] 27)).alloc (.cells #[.string d.kind,.int .i64 d.cell,.int .i64 d.line,.int .i64 d.number,.int .i64 d.kids] 104)).heap[w.heap.size]?=some (.cells #[.int .i64 cells,v1,.int .i64 sum,.slice a' n' c'] 27 (0,0)):=by have h:=World.alloc_heap_new w (.cells #[.int .i64 cells,v1,.int .i64 sum,.slice a' n' c'] 27);exact (Below.heap_alloc _ _ _ (by simp only[World.size_alloc];omega)).trans (h)
 have fq1:((w.alloc (.cells #[.int .i64 cells,v1,.int .i64 sum,.slice a' n' c'] 27)).alloc (.cells #[.string d.kind,.int .i64 d.cell,.int .i64 d.line,.int .i64 d.number,.int .i64 d.kids] 104)).heap[w.heap.size+1]?=some (.cells #[.string d.kind,.int .i64 d.cell,.int .i64 d.line,.int .i64 d.number,.int .i64 d.kids] 104 (0,0)):=by have h:=World.alloc_heap_new (w.alloc (.cells #[.int .i64 cells,v1,.int .i64 sum,.slice a' n' c'] 27)) (.cells #[.string d.kind,.int .i64 d.cell,.int .i64 d.line,.int .i64 d.number,.int .i64 d.kids] 104);simp only[World.size_alloc] at h;exact h
 generalize ((w.alloc (.cells #[.int .i64 cells,v1,.int .i64 sum,.slice a' n' c'] 27)).alloc (.cells #[.string d.kind,.int .i64 d.cell,.int .i64 d.line,.int .i64 d.number,.int .i64 d.kids] 104))=W0 at fsz fB fq0 fq1 ⊢
 have fsz':w.heap.size+1<W0.heap.size:=by omega
 have HN0:=Lib.hid fq1
 have x0:W0.cell? ⟨w.heap.size,0,none⟩=some (.int .i64 cells):=q_cell fq0 0
 have x1:W0.cell? ⟨w.heap.size,1,none⟩=some v1:=q_cell fq0 1
 have x2:W0.cell? ⟨w.heap.size,2,none⟩=some (.int .i64 sum):=q_cell fq0 2
 have x3:W0.cell? ⟨w.heap.size,3,none⟩=some (.slice a' n' c'):=q_cell fq0 3
 have xl:=q_lt fq0
 have y1:W0.cell? ⟨w.heap.size+1,1,none⟩=some (.int .i64 d.cell):=q_cell fq1 1
 have y2:W0.cell? ⟨w.heap.size+1,2,none⟩=some (.int .i64 d.line):=q_cell fq1 2
 have y3:W0.cell? ⟨w.heap.size+1,3,none⟩=some (.int .i64 d.number):=q_cell fq1 3
 have yl:=q_lt fq1
 clear fq0 fq1 fsz
 cases hC:isK d.kind kCell with
 | true =>
  have hKC:(d.kind.toList==[99,101,108,108])=true:=by rw[← kCell_l];exact hC
  have HFK:=Lib.hid (fine_cell (g:=g) hC).1
  have HK:=Lib.hid (fine_cell (g:=g) hC).2
  clear hC
  by_cases l1:d.line=0
  ·have m1:(d.line==0)=true:=by simpa using l1
   by_cases l2:d.number=0
   ·have m2:(d.number==0)=true:=by simpa using l2
    by_cases l3:0≤d.cell
    ·have m3:d.cell≥0:=l3
     by_cases l4:d.cell<(n':Int)
     ·obtain ⟨cc,hcc⟩:∃cc:Nat,d.cell=(cc:Int):=⟨d.cell.toNat,by omega⟩
      obtain ⟨bg,og,e9,hbg,hcg⟩:=(H'.out.mono fB).2 cc (by omega)
      have hF5:Hid (fineN g d=(g[cc]?.getD 0==0)):=by unfold Hid;rw[HFK.out,m1,m2,decide_eq_true l3,hgl.out,decide_eq_true l4,hcc,Int.toNat_natCast];rfl
      have hcell:W0.cell? ⟨bg,og+d.cell.toNat,none⟩=some (.int .i64 (g[cc]?.getD 0)):=by rw[hcc,Int.toNat_natCast];exact hcg
      clear hcg hcc
      subst e9
      cases l5:(g[cc]?.getD 0==0) with
      | true =>
       have hF:Hid (fineN g d=true):=by unfold Hid;rw[hF5.out,l5]
       go_wp2_with fail
       refine (unused_c v1 cells sum (some ⟨bg,og,none⟩) n' c' g W0 (H'.out.mono fB) hn (fun k _=>HG.out k)).mono ?_
       rintro _ w1 ⟨vu,rfl,hownu,hb1⟩
       obtain ⟨au,cu,rfl⟩:=owns_shape hownu
       have HKL:Hid ((unusedL g).length≤256):=by unfold Hid;have:=unusedTo_len g g.length;unfold unusedL;have:=hgl.out;omega
       have hicu:=Lib.hid (IC.of_owns hownu (by have:=HKL.out;omega)).1
       have hBw:=fB.trans (hb1.mono fB.size)
       have hz1:=hBw.size
       have HN1:=Lib.hid (keepq hb1 HN0.out)
       clear hownu x3 xl y1 y2 y3 yl x0 x1 x2 hcell l5 l4 l3 m1 m2 m3 hbg hF5 l1 l2 HFK hKC
       go_wp2_with fail
       go_loopw [6,9,49] (fun v _ iv wv=>∃(j:Nat) (ao:Option Addr) (co:Nat),j≤(unusedL g).length∧iv = .int .i64 j∧v = .slice ao j co∧wv.ownsRow w1.heap.size 67 2 (.slice ao j co) j (pairsL (((unusedL g).take j).map fun x=>(d.cell,x)))∧Below w1.heap.size w1 wv) (fun _ _ iv _=>(unusedL g).length - (intOf iv).toNat)
       case atStart=>exact ⟨0,none,0,by omega,rfl,rfl,World.ownsRow_nil _ _ _ _,Below.refl _ _⟩
       case round =>
        obtain ⟨j,ao,co,hj,rfl,rfl,hown,hbj⟩:=hrel
        have hBr:=hBw.trans (hbj.mono hBw.size)
        have HNr:=Lib.hid (keepq hbj HN1.out)
        by_cases hlt:j<(unusedL g).length
        ·obtain ⟨bu,ou,rfl,hbu,hcu⟩:=(hicu.out.mono hbj).2 j hlt
         have hji:(j:Int)<((unusedL g).length:Int):=by omega
         have hTS:=Lib.hid (take_snoc (unusedL g) 0 j hlt)
         generalize (unusedL g)[j]?.getD 0=x at hcu hTS
         have hkl:=HKL.out
         have y1:wr.cell? ⟨w.heap.size+1,1,none⟩=some (.int .i64 d.cell):=q_cell HNr.out 1
         have hnl:=q_lt HNr.out
         have hzr:=hbj.size
         go_wp2_with (first|(at_builtin;refine wpList_append_own _ rfl _ _ 64 rfl w1.heap.size 67 i0 (.agg #[.int .i64 0,.int .i64 0]) 2 16 Tryz.underlying64 hi hz0 hzz hz2 rfl (by decide) _ _ _ rfl (hown.alloc _) ⟨wr.heap.size,0,none⟩ 1 1 [.int .i64 d.cell,.int .i64 x] rfl rfl (cell_new2 _ _ _ _) (by simp[Value.oneCell']) (by unfold maxLen;omega) (by omega) (by simp;omega) ?_))
         intro v' w3 hown' hgrow _
         obtain ⟨av,cv,rfl⟩:=owns_slice4 hown'
         have hb3:Below w1.heap.size w1 w3:=hbj.trans ((grow_s0 hgrow).below (B:=w1.heap.size) (by omega) (fun i e=>owns_ge hown e))
         have hown3:w3.ownsRow w1.heap.size 67 2 (.slice av (j+1) cv) (j+1) (pairsL (((unusedL g).take (j+1)).map fun x=>(d.cell,x))):=by
          rw[hTS.out,List.map_append]
          simp only[List.map_cons,List.map_nil]
          rw[pairsL_snoc,List.map_take]
          exact hown'
         clear hown' hgrow hown
         go_wp2_with fail
         go_roundw
         case rel=>exact ⟨j+1,av,cv,by omega,by go_num,rfl,hown3,hb3⟩
         case measure=>simp[intOf];omega
        ·have e:j=(unusedL g).length:=by omega
         subst e
         have hlo:=HKL.out
         have c4:wr.cell? ⟨w.heap.size+1,4,none⟩=some (.int .i64 d.kids):=q_cell HNr.out 4
         have hnl:=q_lt HNr.out
         go_wp2_with fail
         refine wp_region_S (fun w'=>∃u,w'=over (wr) u) [10] [(0,0),(0,1),(0,2),(0,3),(0,4),(0,5),(0,6),(0,7),(0,8),(1,9),(2,10)] (by kernel_rfl) (by kernel_rfl) (by exact ⟨_,below_over (by repeat (first|assumption|exact Below.refl _ _|refine keep_drew ?_|refine keep_alloc ?_ _|refine keep_trans ?_ (by assumption)))⟩) ?_
         dsimp only[pickOps,nthOp]
         repeat (first|(refine wpS_skip rfl (fun K hK=>?_);go_big_quiet_op;refine hK _ ?_;clear hK K)|(refine wpS_quiet rfl rfl (fun K hK=>?_);go_big_quiet_op;refine hK _ ?_;clear hK K)|(refine wpS_loud ?_;go_wp2;refine ⟨?_,?_⟩;focus (exact ⟨_,below_over (by repeat (first|assumption|exact Below.refl _ _|refine keep_drew ?_|refine keep_alloc ?_ _|refine keep_trans ?_ (by assumption)))⟩)))
         refine wpS_late _ _ _ rfl ?_
         dsimp only[List.map]
         go_wp2
         refine NoPanic.normal ?_
         go_wp2
         go_ret2
         have hKe:kidsN g d=(unusedL g).map fun x=>(d.cell,x):=HK.out
         have hln:(kidsN g d).length=(unusedL g).length:=by rw[hKe,List.length_map]
         refine ⟨ao,co,?_,?_,hBr.drew⟩
         ·rw[hln]
          unfold okN
          rw[hF.out,hln]
          rfl
         ·rw[hln,hKe]
          rw[List.take_length] at hown
          exact owns_base hown (by omega)
      | false =>
       have hF:Hid (fineN g d=false):=by unfold Hid;rw[hF5.out,l5]
       go_wp2_with fail
       refine (unused_c v1 cells sum (some ⟨bg,og,none⟩) n' c' g W0 (H'.out.mono fB) hn (fun k _=>HG.out k)).mono ?_
       rintro _ w1 ⟨vu,rfl,hownu,hb1⟩
       obtain ⟨au,cu,rfl⟩:=owns_shape hownu
       have HKL:Hid ((unusedL g).length≤256):=by unfold Hid;have:=unusedTo_len g g.length;unfold unusedL;have:=hgl.out;omega
       have hicu:=Lib.hid (IC.of_owns hownu (by have:=HKL.out;omega)).1
       have hBw:=fB.trans (hb1.mono fB.size)
       have hz1:=hBw.size
       have HN1:=Lib.hid (keepq hb1 HN0.out)
       clear hownu x3 xl y1 y2 y3 yl x0 x1 x2 hcell l5 l4 l3 m1 m2 m3 hbg hF5 l1 l2 HFK hKC
       go_wp2_with fail
       go_loopw [6,9,49] (fun v _ iv wv=>∃(j:Nat) (ao:Option Addr) (co:Nat),j≤(unusedL g).length∧iv = .int .i64 j∧v = .slice ao j co∧wv.ownsRow w1.heap.size 67 2 (.slice ao j co) j (pairsL (((unusedL g).take j).map fun x=>(d.cell,x)))∧Below w1.heap.size w1 wv) (fun _ _ iv _=>(unusedL g).length - (intOf iv).toNat)
       case atStart=>exact ⟨0,none,0,by omega,rfl,rfl,World.ownsRow_nil _ _ _ _,Below.refl _ _⟩
       case round =>
        obtain ⟨j,ao,co,hj,rfl,rfl,hown,hbj⟩:=hrel
        have hBr:=hBw.trans (hbj.mono hBw.size)
        have HNr:=Lib.hid (keepq hbj HN1.out)
        by_cases hlt:j<(unusedL g).length
        ·obtain ⟨bu,ou,rfl,hbu,hcu⟩:=(hicu.out.mono hbj).2 j hlt
         have hji:(j:Int)<((unusedL g).length:Int):=by omega
         have hTS:=Lib.hid (take_snoc (unusedL g) 0 j hlt)
         generalize (unusedL g)[j]?.getD 0=x at hcu hTS
         have hkl:=HKL.out
         have y1:wr.cell? ⟨w.heap.size+1,1,none⟩=some (.int .i64 d.cell):=q_cell HNr.out 1
         have hnl:=q_lt HNr.out
         have hzr:=hbj.size
         go_wp2_with (first|(at_builtin;refine wpList_append_own _ rfl _ _ 64 rfl w1.heap.size 67 i0 (.agg #[.int .i64 0,.int .i64 0]) 2 16 Tryz.underlying64 hi hz0 hzz hz2 rfl (by decide) _ _ _ rfl (hown.alloc _) ⟨wr.heap.size,0,none⟩ 1 1 [.int .i64 d.cell,.int .i64 x] rfl rfl (cell_new2 _ _ _ _) (by simp[Value.oneCell']) (by unfold maxLen;omega) (by omega) (by simp;omega) ?_))
         intro v' w3 hown' hgrow _
         obtain ⟨av,cv,rfl⟩:=owns_slice4 hown'
         have hb3:Below w1.heap.size w1 w3:=hbj.trans ((grow_s0 hgrow).below (B:=w1.heap.size) (by omega) (fun i e=>owns_ge hown e))
         have hown3:w3.ownsRow w1.heap.size 67 2 (.slice av (j+1) cv) (j+1) (pairsL (((unusedL g).take (j+1)).map fun x=>(d.cell,x))):=by
          rw[hTS.out,List.map_append]
          simp only[List.map_cons,List.map_nil]
          rw[pairsL_snoc,List.map_take]
          exact hown'
         clear hown' hgrow hown
         go_wp2_with fail
         go_roundw
         case rel=>exact ⟨j+1,av,cv,by omega,by go_num,rfl,hown3,hb3⟩
         case measure=>simp[intOf];omega
        ·have e:j=(unusedL g).length:=by omega
         subst e
         have hlo:=HKL.out
         have c4:wr.cell? ⟨w.heap.size+1,4,none⟩=some (.int .i64 d.kids):=q_cell HNr.out 4
         have hnl:=q_lt HNr.out
         go_wp2_with fail
         refine wp_region_S (fun w'=>∃u,w'=over (wr) u) [10] [(0,0),(0,1),(0,2),(0,3),(0,4),(0,5),(0,6),(0,7),(0,8),(1,9),(2,10)] (by kernel_rfl) (by kernel_rfl) (by exact ⟨_,below_over (by repeat (first|assumption|exact Below.refl _ _|refine keep_drew ?_|refine keep_alloc ?_ _|refine keep_trans ?_ (by assumption)))⟩) ?_
         dsimp only[pickOps,nthOp]
         repeat (first|(refine wpS_skip rfl (fun K hK=>?_);go_big_quiet_op;refine hK _ ?_;clear hK K)|(refine wpS_quiet rfl rfl (fun K hK=>?_);go_big_quiet_op;refine hK _ ?_;clear hK K)|(refine wpS_loud ?_;go_wp2;refine ⟨?_,?_⟩;focus (exact ⟨_,below_over (by repeat (first|assumption|exact Below.refl _ _|refine keep_drew ?_|refine keep_alloc ?_ _|refine keep_trans ?_ (by assumption)))⟩)))
         refine wpS_late _ _ _ rfl ?_
         dsimp only[List.map]
         go_wp2
         refine NoPanic.normal ?_
         go_wp2
         go_ret2
         have hKe:kidsN g d=(unusedL g).map fun x=>(d.cell,x):=HK.out
         have hln:(kidsN g d).length=(unusedL g).length:=by rw[hKe,List.length_map]
         refine ⟨ao,co,?_,?_,hBr.drew⟩
         ·rw[hln]
          unfold okN
          rw[hF.out,hln]
          rfl
         ·rw[hln,hKe]
          rw[List.take_length] at hown
          exact owns_base hown (by omega)
     ·have hF:Hid (fineN g d=false):=by unfold Hid;rw[HFK.out,hgl.out,decide_eq_false l4];simp
      go_wp2_with fail
      refine (unused_c v1 cells sum a' n' c' g W0 (H'.out.mono fB) hn (fun k _=>HG.out k)).mono ?_
      rintro _ w1 ⟨vu,rfl,hownu,hb1⟩
      obtain ⟨au,cu,rfl⟩:=owns_shape hownu
      have HKL:Hid ((unusedL g).length≤256):=by unfold Hid;have:=unusedTo_len g g.length;unfold unusedL;have:=hgl.out;omega
      have hicu:=Lib.hid (IC.of_owns hownu (by have:=HKL.out;omega)).1
      have hBw:=fB.trans (hb1.mono fB.size)
      have hz1:=hBw.size
      have HN1:=Lib.hid (keepq hb1 HN0.out)
      clear hownu x3 xl y1 y2 y3 yl x0 x1 x2
      go_wp2_with fail
      go_loopw [6,9,49] (fun v _ iv wv=>∃(j:Nat) (ao:Option Addr) (co:Nat),j≤(unusedL g).length∧iv = .int .i64 j∧v = .slice ao j co∧wv.ownsRow w1.heap.size 67 2 (.slice ao j co) j (pairsL (((unusedL g).take j).map fun x=>(d.cell,x)))∧Below w1.heap.size w1 wv) (fun _ _ iv _=>(unusedL g).length - (intOf iv).toNat)
      case atStart=>exact ⟨0,none,0,by omega,rfl,rfl,World.ownsRow_nil _ _ _ _,Below.refl _ _⟩
      case round =>
       obtain ⟨j,ao,co,hj,rfl,rfl,hown,hbj⟩:=hrel
       have hBr:=hBw.trans (hbj.mono hBw.size)
       have HNr:=Lib.hid (keepq hbj HN1.out)
       by_cases hlt:j<(unusedL g).length
       ·obtain ⟨bu,ou,rfl,hbu,hcu⟩:=(hicu.out.mono hbj).2 j hlt
        have hji:(j:Int)<((unusedL g).length:Int):=by omega
        have hTS:=Lib.hid (take_snoc (unusedL g) 0 j hlt)
        generalize (unusedL g)[j]?.getD 0=x at hcu hTS
        have hkl:=HKL.out
        have y1:wr.cell? ⟨w.heap.size+1,1,none⟩=some (.int .i64 d.cell):=q_cell HNr.out 1
        have hnl:=q_lt HNr.out
        have hzr:=hbj.size
        go_wp2_with (first|(at_builtin;refine wpList_append_own _ rfl _ _ 64 rfl w1.heap.size 67 i0 (.agg #[.int .i64 0,.int .i64 0]) 2 16 Tryz.underlying64 hi hz0 hzz hz2 rfl (by decide) _ _ _ rfl (hown.alloc _) ⟨wr.heap.size,0,none⟩ 1 1 [.int .i64 d.cell,.int .i64 x] rfl rfl (cell_new2 _ _ _ _) (by simp[Value.oneCell']) (by unfold maxLen;omega) (by omega) (by simp;omega) ?_))
        intro v' w3 hown' hgrow _
        obtain ⟨av,cv,rfl⟩:=owns_slice4 hown'
        have hb3:Below w1.heap.size w1 w3:=hbj.trans ((grow_s0 hgrow).below (B:=w1.heap.size) (by omega) (fun i e=>owns_ge hown e))
        have hown3:w3.ownsRow w1.heap.size 67 2 (.slice av (j+1) cv) (j+1) (pairsL (((unusedL g).take (j+1)).map fun x=>(d.cell,x))):=by
         rw[hTS.out,List.map_append]
         simp only[List.map_cons,List.map_nil]
         rw[pairsL_snoc,List.map_take]
         exact hown'
        clear hown' hgrow hown
        go_wp2_with fail
        go_roundw
        case rel=>exact ⟨j+1,av,cv,by omega,by go_num,rfl,hown3,hb3⟩
        case measure=>simp[intOf];omega
       ·have e:j=(unusedL g).length:=by omega
        subst e
        have hlo:=HKL.out
        have c4:wr.cell? ⟨w.heap.size+1,4,none⟩=some (.int .i64 d.kids):=q_cell HNr.out 4
        have hnl:=q_lt HNr.out
        go_wp2_with fail
        refine wp_region_S (fun w'=>∃u,w'=over (wr) u) [10] [(0,0),(0,1),(0,2),(0,3),(0,4),(0,5),(0,6),(0,7),(0,8),(1,9),(2,10)] (by kernel_rfl) (by kernel_rfl) (by exact ⟨_,below_over (by repeat (first|assumption|exact Below.refl _ _|refine keep_drew ?_|refine keep_alloc ?_ _|refine keep_trans ?_ (by assumption)))⟩) ?_
        dsimp only[pickOps,nthOp]
        repeat (first|(refine wpS_skip rfl (fun K hK=>?_);go_big_quiet_op;refine hK _ ?_;clear hK K)|(refine wpS_quiet rfl rfl (fun K hK=>?_);go_big_quiet_op;refine hK _ ?_;clear hK K)|(refine wpS_loud ?_;go_wp2;refine ⟨?_,?_⟩;focus (exact ⟨_,below_over (by repeat (first|assumption|exact Below.refl _ _|refine keep_drew ?_|refine keep_alloc ?_ _|refine keep_trans ?_ (by assumption)))⟩)))
        refine wpS_late _ _ _ rfl ?_
        dsimp only[List.map]
        go_wp2
        refine NoPanic.normal ?_
        go_wp2
        go_ret2
        have hKe:kidsN g d=(unusedL g).map fun x=>(d.cell,x):=HK.out
        have hln:(kidsN g d).length=(unusedL g).length:=by rw[hKe,List.length_map]
        refine ⟨ao,co,?_,?_,hBr.drew⟩
        ·rw[hln]
         unfold okN
         rw[hF.out,hln]
         rfl
        ·rw[hln,hKe]
         rw[List.take_length] at hown
         exact owns_base hown (by omega)
    ·have m3:¬d.cell≥0:=l3
     have hF:Hid (fineN g d=false):=by unfold Hid;rw[HFK.out,decide_eq_false l3];simp
     go_wp2_with fail
     refine (unused_c v1 cells sum a' n' c' g W0 (H'.out.mono fB) hn (fun k _=>HG.out k)).mono ?_
     rintro _ w1 ⟨vu,rfl,hownu,hb1⟩
     obtain ⟨au,cu,rfl⟩:=owns_shape hownu
     have HKL:Hid ((unusedL g).length≤256):=by unfold Hid;have:=unusedTo_len g g.length;unfold unusedL;have:=hgl.out;omega
     have hicu:=Lib.hid (IC.of_owns hownu (by have:=HKL.out;omega)).1
     have hBw:=fB.trans (hb1.mono fB.size)
     have hz1:=hBw.size
     have HN1:=Lib.hid (keepq hb1 HN0.out)
     clear hownu x3 xl y1 y2 y3 yl x0 x1 x2
     go_wp2_with fail
     go_loopw [6,9,49] (fun v _ iv wv=>∃(j:Nat) (ao:Option Addr) (co:Nat),j≤(unusedL g).length∧iv = .int .i64 j∧v = .slice ao j co∧wv.ownsRow w1.heap.size 67 2 (.slice ao j co) j (pairsL (((unusedL g).take j).map fun x=>(d.cell,x)))∧Below w1.heap.size w1 wv) (fun _ _ iv _=>(unusedL g).length - (intOf iv).toNat)
     case atStart=>exact ⟨0,none,0,by omega,rfl,rfl,World.ownsRow_nil _ _ _ _,Below.refl _ _⟩
     case round =>
      obtain ⟨j,ao,co,hj,rfl,rfl,hown,hbj⟩:=hrel
      have hBr:=hBw.trans (hbj.mono hBw.size)
      have HNr:=Lib.hid (keepq hbj HN1.out)
      by_cases hlt:j<(unusedL g).length
      ·obtain ⟨bu,ou,rfl,hbu,hcu⟩:=(hicu.out.mono hbj).2 j hlt
       have hji:(j:Int)<((unusedL g).length:Int):=by omega
       have hTS:=Lib.hid (take_snoc (unusedL g) 0 j hlt)
       generalize (unusedL g)[j]?.getD 0=x at hcu hTS
       have hkl:=HKL.out
       have y1:wr.cell? ⟨w.heap.size+1,1,none⟩=some (.int .i64 d.cell):=q_cell HNr.out 1
       have hnl:=q_lt HNr.out
       have hzr:=hbj.size
       go_wp2_with (first|(at_builtin;refine wpList_append_own _ rfl _ _ 64 rfl w1.heap.size 67 i0 (.agg #[.int .i64 0,.int .i64 0]) 2 16 Tryz.underlying64 hi hz0 hzz hz2 rfl (by decide) _ _ _ rfl (hown.alloc _) ⟨wr.heap.size,0,none⟩ 1 1 [.int .i64 d.cell,.int .i64 x] rfl rfl (cell_new2 _ _ _ _) (by simp[Value.oneCell']) (by unfold maxLen;omega) (by omega) (by simp;omega) ?_))
       intro v' w3 hown' hgrow _
       obtain ⟨av,cv,rfl⟩:=owns_slice4 hown'
       have hb3:Below w1.heap.size w1 w3:=hbj.trans ((grow_s0 hgrow).below (B:=w1.heap.size) (by omega) (fun i e=>owns_ge hown e))
       have hown3:w3.ownsRow w1.heap.size 67 2 (.slice av (j+1) cv) (j+1) (pairsL (((unusedL g).take (j+1)).map fun x=>(d.cell,x))):=by
        rw[hTS.out,List.map_append]
        simp only[List.map_cons,List.map_nil]
        rw[pairsL_snoc,List.map_take]
        exact hown'
       clear hown' hgrow hown
       go_wp2_with fail
       go_roundw
       case rel=>exact ⟨j+1,av,cv,by omega,by go_num,rfl,hown3,hb3⟩
       case measure=>simp[intOf];omega
      ·have e:j=(unusedL g).length:=by omega
       subst e
       have hlo:=HKL.out
       have c4:wr.cell? ⟨w.heap.size+1,4,none⟩=some (.int .i64 d.kids):=q_cell HNr.out 4
       have hnl:=q_lt HNr.out
       go_wp2_with fail
       refine wp_region_S (fun w'=>∃u,w'=over (wr) u) [10] [(0,0),(0,1),(0,2),(0,3),(0,4),(0,5),(0,6),(0,7),(0,8),(1,9),(2,10)] (by kernel_rfl) (by kernel_rfl) (by exact ⟨_,below_over (by repeat (first|assumption|exact Below.refl _ _|refine keep_drew ?_|refine keep_alloc ?_ _|refine keep_trans ?_ (by assumption)))⟩) ?_
       dsimp only[pickOps,nthOp]
       repeat (first|(refine wpS_skip rfl (fun K hK=>?_);go_big_quiet_op;refine hK _ ?_;clear hK K)|(refine wpS_quiet rfl rfl (fun K hK=>?_);go_big_quiet_op;refine hK _ ?_;clear hK K)|(refine wpS_loud ?_;go_wp2;refine ⟨?_,?_⟩;focus (exact ⟨_,below_over (by repeat (first|assumption|exact Below.refl _ _|refine keep_drew ?_|refine keep_alloc ?_ _|refine keep_trans ?_ (by assumption)))⟩)))
       refine wpS_late _ _ _ rfl ?_
       dsimp only[List.map]
       go_wp2
       refine NoPanic.normal ?_
       go_wp2
       go_ret2
       have hKe:kidsN g d=(unusedL g).map fun x=>(d.cell,x):=HK.out
       have hln:(kidsN g d).length=(unusedL g).length:=by rw[hKe,List.length_map]
       refine ⟨ao,co,?_,?_,hBr.drew⟩
       ·rw[hln]
        unfold okN
        rw[hF.out,hln]
        rfl
       ·rw[hln,hKe]
        rw[List.take_length] at hown
        exact owns_base hown (by omega)
   ·have m2:(d.number==0)=false:=by simpa using l2
    have hF:Hid (fineN g d=false):=by unfold Hid;rw[HFK.out,m2];simp
    go_wp2_with fail
    refine (unused_c v1 cells sum a' n' c' g W0 (H'.out.mono fB) hn (fun k _=>HG.out k)).mono ?_
    rintro _ w1 ⟨vu,rfl,hownu,hb1⟩
    obtain ⟨au,cu,rfl⟩:=owns_shape hownu
    have HKL:Hid ((unusedL g).length≤256):=by unfold Hid;have:=unusedTo_len g g.length;unfold unusedL;have:=hgl.out;omega
    have hicu:=Lib.hid (IC.of_owns hownu (by have:=HKL.out;omega)).1
    have hBw:=fB.trans (hb1.mono fB.size)
    have hz1:=hBw.size
    have HN1:=Lib.hid (keepq hb1 HN0.out)
    clear hownu x3 xl y1 y2 y3 yl x0 x1 x2
    go_wp2_with fail
    go_loopw [6,9,49] (fun v _ iv wv=>∃(j:Nat) (ao:Option Addr) (co:Nat),j≤(unusedL g).length∧iv = .int .i64 j∧v = .slice ao j co∧wv.ownsRow w1.heap.size 67 2 (.slice ao j co) j (pairsL (((unusedL g).take j).map fun x=>(d.cell,x)))∧Below w1.heap.size w1 wv) (fun _ _ iv _=>(unusedL g).length - (intOf iv).toNat)
    case atStart=>exact ⟨0,none,0,by omega,rfl,rfl,World.ownsRow_nil _ _ _ _,Below.refl _ _⟩
    case round =>
     obtain ⟨j,ao,co,hj,rfl,rfl,hown,hbj⟩:=hrel
     have hBr:=hBw.trans (hbj.mono hBw.size)
     have HNr:=Lib.hid (keepq hbj HN1.out)
     by_cases hlt:j<(unusedL g).length
     ·obtain ⟨bu,ou,rfl,hbu,hcu⟩:=(hicu.out.mono hbj).2 j hlt
      have hji:(j:Int)<((unusedL g).length:Int):=by omega
      have hTS:=Lib.hid (take_snoc (unusedL g) 0 j hlt)
      generalize (unusedL g)[j]?.getD 0=x at hcu hTS
      have hkl:=HKL.out
      have y1:wr.cell? ⟨w.heap.size+1,1,none⟩=some (.int .i64 d.cell):=q_cell HNr.out 1
      have hnl:=q_lt HNr.out
      have hzr:=hbj.size
      go_wp2_with (first|(at_builtin;refine wpList_append_own _ rfl _ _ 64 rfl w1.heap.size 67 i0 (.agg #[.int .i64 0,.int .i64 0]) 2 16 Tryz.underlying64 hi hz0 hzz hz2 rfl (by decide) _ _ _ rfl (hown.alloc _) ⟨wr.heap.size,0,none⟩ 1 1 [.int .i64 d.cell,.int .i64 x] rfl rfl (cell_new2 _ _ _ _) (by simp[Value.oneCell']) (by unfold maxLen;omega) (by omega) (by simp;omega) ?_))
      intro v' w3 hown' hgrow _
      obtain ⟨av,cv,rfl⟩:=owns_slice4 hown'
      have hb3:Below w1.heap.size w1 w3:=hbj.trans ((grow_s0 hgrow).below (B:=w1.heap.size) (by omega) (fun i e=>owns_ge hown e))
      have hown3:w3.ownsRow w1.heap.size 67 2 (.slice av (j+1) cv) (j+1) (pairsL (((unusedL g).take (j+1)).map fun x=>(d.cell,x))):=by
       rw[hTS.out,List.map_append]
       simp only[List.map_cons,List.map_nil]
       rw[pairsL_snoc,List.map_take]
       exact hown'
      clear hown' hgrow hown
      go_wp2_with fail
      go_roundw
      case rel=>exact ⟨j+1,av,cv,by omega,by go_num,rfl,hown3,hb3⟩
      case measure=>simp[intOf];omega
     ·have e:j=(unusedL g).length:=by omega
      subst e
      have hlo:=HKL.out
      have c4:wr.cell? ⟨w.heap.size+1,4,none⟩=some (.int .i64 d.kids):=q_cell HNr.out 4
      have hnl:=q_lt HNr.out
      go_wp2_with fail
      refine wp_region_S (fun w'=>∃u,w'=over (wr) u) [10] [(0,0),(0,1),(0,2),(0,3),(0,4),(0,5),(0,6),(0,7),(0,8),(1,9),(2,10)] (by kernel_rfl) (by kernel_rfl) (by exact ⟨_,below_over (by repeat (first|assumption|exact Below.refl _ _|refine keep_drew ?_|refine keep_alloc ?_ _|refine keep_trans ?_ (by assumption)))⟩) ?_
      dsimp only[pickOps,nthOp]
      repeat (first|(refine wpS_skip rfl (fun K hK=>?_);go_big_quiet_op;refine hK _ ?_;clear hK K)|(refine wpS_quiet rfl rfl (fun K hK=>?_);go_big_quiet_op;refine hK _ ?_;clear hK K)|(refine wpS_loud ?_;go_wp2;refine ⟨?_,?_⟩;focus (exact ⟨_,below_over (by repeat (first|assumption|exact Below.refl _ _|refine keep_drew ?_|refine keep_alloc ?_ _|refine keep_trans ?_ (by assumption)))⟩)))
      refine wpS_late _ _ _ rfl ?_
      dsimp only[List.map]
      go_wp2
      refine NoPanic.normal ?_
      go_wp2
      go_ret2
      have hKe:kidsN g d=(unusedL g).map fun x=>(d.cell,x):=HK.out
      have hln:(kidsN g d).length=(unusedL g).length:=by rw[hKe,List.length_map]
      refine ⟨ao,co,?_,?_,hBr.drew⟩
      ·rw[hln]
       unfold okN
       rw[hF.out,hln]
       rfl
      ·rw[hln,hKe]
       rw[List.take_length] at hown
       exact owns_base hown (by omega)
  ·have m1:(d.line==0)=false:=by simpa using l1
   have hF:Hid (fineN g d=false):=by unfold Hid;rw[HFK.out,m1];simp
   go_wp2_with fail
   refine (unused_c v1 cells sum a' n' c' g W0 (H'.out.mono fB) hn (fun k _=>HG.out k)).mono ?_
   rintro _ w1 ⟨vu,rfl,hownu,hb1⟩
   obtain ⟨au,cu,rfl⟩:=owns_shape hownu
   have HKL:Hid ((unusedL g).length≤256):=by unfold Hid;have:=unusedTo_len g g.length;unfold unusedL;have:=hgl.out;omega
   have hicu:=Lib.hid (IC.of_owns hownu (by have:=HKL.out;omega)).1
   have hBw:=fB.trans (hb1.mono fB.size)
   have hz1:=hBw.size
   have HN1:=Lib.hid (keepq hb1 HN0.out)
   clear hownu x3 xl y1 y2 y3 yl x0 x1 x2
   go_wp2_with fail
   go_loopw [6,9,49] (fun v _ iv wv=>∃(j:Nat) (ao:Option Addr) (co:Nat),j≤(unusedL g).length∧iv = .int .i64 j∧v = .slice ao j co∧wv.ownsRow w1.heap.size 67 2 (.slice ao j co) j (pairsL (((unusedL g).take j).map fun x=>(d.cell,x)))∧Below w1.heap.size w1 wv) (fun _ _ iv _=>(unusedL g).length - (intOf iv).toNat)
   case atStart=>exact ⟨0,none,0,by omega,rfl,rfl,World.ownsRow_nil _ _ _ _,Below.refl _ _⟩
   case round =>
    obtain ⟨j,ao,co,hj,rfl,rfl,hown,hbj⟩:=hrel
    have hBr:=hBw.trans (hbj.mono hBw.size)
    have HNr:=Lib.hid (keepq hbj HN1.out)
    by_cases hlt:j<(unusedL g).length
    ·obtain ⟨bu,ou,rfl,hbu,hcu⟩:=(hicu.out.mono hbj).2 j hlt
     have hji:(j:Int)<((unusedL g).length:Int):=by omega
     have hTS:=Lib.hid (take_snoc (unusedL g) 0 j hlt)
     generalize (unusedL g)[j]?.getD 0=x at hcu hTS
     have hkl:=HKL.out
     have y1:wr.cell? ⟨w.heap.size+1,1,none⟩=some (.int .i64 d.cell):=q_cell HNr.out 1
     have hnl:=q_lt HNr.out
     have hzr:=hbj.size
     go_wp2_with (first|(at_builtin;refine wpList_append_own _ rfl _ _ 64 rfl w1.heap.size 67 i0 (.agg #[.int .i64 0,.int .i64 0]) 2 16 Tryz.underlying64 hi hz0 hzz hz2 rfl (by decide) _ _ _ rfl (hown.alloc _) ⟨wr.heap.size,0,none⟩ 1 1 [.int .i64 d.cell,.int .i64 x] rfl rfl (cell_new2 _ _ _ _) (by simp[Value.oneCell']) (by unfold maxLen;omega) (by omega) (by simp;omega) ?_))
     intro v' w3 hown' hgrow _
     obtain ⟨av,cv,rfl⟩:=owns_slice4 hown'
     have hb3:Below w1.heap.size w1 w3:=hbj.trans ((grow_s0 hgrow).below (B:=w1.heap.size) (by omega) (fun i e=>owns_ge hown e))
     have hown3:w3.ownsRow w1.heap.size 67 2 (.slice av (j+1) cv) (j+1) (pairsL (((unusedL g).take (j+1)).map fun x=>(d.cell,x))):=by
      rw[hTS.out,List.map_append]
      simp only[List.map_cons,List.map_nil]
      rw[pairsL_snoc,List.map_take]
      exact hown'
     clear hown' hgrow hown
     go_wp2_with fail
     go_roundw
     case rel=>exact ⟨j+1,av,cv,by omega,by go_num,rfl,hown3,hb3⟩
     case measure=>simp[intOf];omega
    ·have e:j=(unusedL g).length:=by omega
     subst e
     have hlo:=HKL.out
     have c4:wr.cell? ⟨w.heap.size+1,4,none⟩=some (.int .i64 d.kids):=q_cell HNr.out 4
     have hnl:=q_lt HNr.out
     go_wp2_with fail
     refine wp_region_S (fun w'=>∃u,w'=over (wr) u) [10] [(0,0),(0,1),(0,2),(0,3),(0,4),(0,5),(0,6),(0,7),(0,8),(1,9),(2,10)] (by kernel_rfl) (by kernel_rfl) (by exact ⟨_,below_over (by repeat (first|assumption|exact Below.refl _ _|refine keep_drew ?_|refine keep_alloc ?_ _|refine keep_trans ?_ (by assumption)))⟩) ?_
     dsimp only[pickOps,nthOp]
     repeat (first|(refine wpS_skip rfl (fun K hK=>?_);go_big_quiet_op;refine hK _ ?_;clear hK K)|(refine wpS_quiet rfl rfl (fun K hK=>?_);go_big_quiet_op;refine hK _ ?_;clear hK K)|(refine wpS_loud ?_;go_wp2;refine ⟨?_,?_⟩;focus (exact ⟨_,below_over (by repeat (first|assumption|exact Below.refl _ _|refine keep_drew ?_|refine keep_alloc ?_ _|refine keep_trans ?_ (by assumption)))⟩)))
     refine wpS_late _ _ _ rfl ?_
     dsimp only[List.map]
     go_wp2
     refine NoPanic.normal ?_
     go_wp2
     go_ret2
     have hKe:kidsN g d=(unusedL g).map fun x=>(d.cell,x):=HK.out
     have hln:(kidsN g d).length=(unusedL g).length:=by rw[hKe,List.length_map]
     refine ⟨ao,co,?_,?_,hBr.drew⟩
     ·rw[hln]
      unfold okN
      rw[hF.out,hln]
      rfl
     ·rw[hln,hKe]
      rw[List.take_length] at hown
      exact owns_base hown (by omega)
 | false =>
  have hKC:(d.kind.toList==[99,101,108,108])=false:=by rw[← kCell_l];exact hC
  cases hC2:isK d.kind kNumber with
  | true =>
   have hKN:(d.kind.toList==[110,117,109,98,101,114])=true:=by rw[← kNumber_l];exact hC2
   have HFK:=Lib.hid (fine_number (g:=g) hC hC2).1
   have HK:=Lib.hid (fine_number (g:=g) hC hC2).2
   clear hC hC2
   by_cases l1:d.line=0
   ·have m1:(d.line==0)=true:=by simpa using l1
    by_cases l2:d.cell=0
    ·have m2:(d.cell==0)=true:=by simpa using l2
     by_cases l3:1≤d.number
     ·have m3:d.number≥1:=l3
      by_cases l4:d.number≤(n':Int)
      ·have hF5:Hid (fineN g d=!hasB g d.number):=by unfold Hid;rw[HFK.out,m1,m2,decide_eq_true l3,hgl.out,decide_eq_true l4];rfl
       have HCO:=Lib.hid (contains_c a' n' c' g d.number W0 (H'.out.mono fB))
       cases l5:hasB g d.number with
       | true =>
        have hF:Hid (fineN g d=false):=by unfold Hid;rw[hF5.out,l5];rfl
        rw[l5] at HCO
        clear l5
        go_wp2_with fail
        refine HCO.out.mono ?_
        rintro _ w9 ⟨rfl,rfl⟩
        go_wp2_with fail
        refine (open_c v1 cells sum a' n' c' g W0 (H'.out.mono fB)).mono ?_
        rintro _ w1 ⟨vu,rfl,hownu,hb1⟩
        obtain ⟨au,cu,rfl⟩:=owns_shape hownu
        have HKL:Hid ((openL g).length≤256):=by unfold Hid;have:=openTo_len g g.length;unfold openL;have:=hgl.out;omega
        have hicu:=Lib.hid (IC.of_owns hownu (by have:=HKL.out;omega)).1
        have hBw:=fB.trans (hb1.mono fB.size)
        have hz1:=hBw.size
        have HN1:=Lib.hid (keepq hb1 HN0.out)
        clear hownu x3 xl y1 y2 y3 yl x0 x1 x2
        go_wp2_with fail
        go_loopw [6,11,95] (fun v _ iv wv=>∃(j:Nat) (ao:Option Addr) (co:Nat),j≤(openL g).length∧iv = .int .i64 j∧v = .slice ao j co∧wv.ownsRow w1.heap.size 67 2 (.slice ao j co) j (pairsL (((openL g).take j).map fun x=>(x,d.number)))∧Below w1.heap.size w1 wv) (fun _ _ iv _=>(openL g).length - (intOf iv).toNat)
        case atStart=>exact ⟨0,none,0,by omega,rfl,rfl,World.ownsRow_nil _ _ _ _,Below.refl _ _⟩
        case round =>
         obtain ⟨j,ao,co,hj,rfl,rfl,hown,hbj⟩:=hrel
         have hBr:=hBw.trans (hbj.mono hBw.size)
         have HNr:=Lib.hid (keepq hbj HN1.out)
         by_cases hlt:j<(openL g).length
         ·obtain ⟨bu,ou,rfl,hbu,hcu⟩:=(hicu.out.mono hbj).2 j hlt
          have hji:(j:Int)<((openL g).length:Int):=by omega
          have hTS:=Lib.hid (take_snoc (openL g) 0 j hlt)
          generalize (openL g)[j]?.getD 0=x at hcu hTS
          have hkl:=HKL.out
          have y3:wr.cell? ⟨w.heap.size+1,3,none⟩=some (.int .i64 d.number):=q_cell HNr.out 3
          have hnl:=q_lt HNr.out
          have hzr:=hbj.size
          go_wp2_with (first|(at_builtin;refine wpList_append_own _ rfl _ _ 64 rfl w1.heap.size 67 i0 (.agg #[.int .i64 0,.int .i64 0]) 2 16 Tryz.underlying64 hi hz0 hzz hz2 rfl (by decide) _ _ _ rfl (hown.alloc _) ⟨wr.heap.size,0,none⟩ 1 1 [.int .i64 x,.int .i64 d.number] rfl rfl (cell_new2 _ _ _ _) (by simp[Value.oneCell']) (by unfold maxLen;omega) (by omega) (by simp;omega) ?_))
          intro v' w3 hown' hgrow _
          obtain ⟨av,cv,rfl⟩:=owns_slice4 hown'
          have hb3:Below w1.heap.size w1 w3:=hbj.trans ((grow_s0 hgrow).below (B:=w1.heap.size) (by omega) (fun i e=>owns_ge hown e))
          have hown3:w3.ownsRow w1.heap.size 67 2 (.slice av (j+1) cv) (j+1) (pairsL (((openL g).take (j+1)).map fun x=>(x,d.number))):=by
           rw[hTS.out,List.map_append]
           simp only[List.map_cons,List.map_nil]
           rw[pairsL_snoc,List.map_take]
           exact hown'
          clear hown' hgrow hown
          go_wp2_with fail
          go_roundw
          case rel=>exact ⟨j+1,av,cv,by omega,by go_num,rfl,hown3,hb3⟩
          case measure=>simp[intOf];omega
         ·have e:j=(openL g).length:=by omega
          subst e
          have hlo:=HKL.out
          have c4:wr.cell? ⟨w.heap.size+1,4,none⟩=some (.int .i64 d.kids):=q_cell HNr.out 4
          have hnl:=q_lt HNr.out
          go_wp2_with fail
          refine wp_region_S (fun w'=>∃u,w'=over (wr) u) [10] [(0,0),(0,1),(0,2),(0,3),(0,4),(0,5),(0,6),(0,7),(0,8),(1,9),(2,10)] (by kernel_rfl) (by kernel_rfl) (by exact ⟨_,below_over (by repeat (first|assumption|exact Below.refl _ _|refine keep_drew ?_|refine keep_alloc ?_ _|refine keep_trans ?_ (by assumption)))⟩) ?_
          dsimp only[pickOps,nthOp]
          repeat (first|(refine wpS_skip rfl (fun K hK=>?_);go_big_quiet_op;refine hK _ ?_;clear hK K)|(refine wpS_quiet rfl rfl (fun K hK=>?_);go_big_quiet_op;refine hK _ ?_;clear hK K)|(refine wpS_loud ?_;go_wp2;refine ⟨?_,?_⟩;focus (exact ⟨_,below_over (by repeat (first|assumption|exact Below.refl _ _|refine keep_drew ?_|refine keep_alloc ?_ _|refine keep_trans ?_ (by assumption)))⟩)))
          refine wpS_late _ _ _ rfl ?_
          dsimp only[List.map]
          go_wp2
          refine NoPanic.normal ?_
          go_wp2
          go_ret2
          have hKe:kidsN g d=(openL g).map fun x=>(x,d.number):=HK.out
          have hln:(kidsN g d).length=(openL g).length:=by rw[hKe,List.length_map]
          refine ⟨ao,co,?_,?_,hBr.drew⟩
          ·rw[hln]
           unfold okN
           rw[hF.out,hln]
           rfl
          ·rw[hln,hKe]
           rw[List.take_length] at hown
           exact owns_base hown (by omega)
       | false =>
        have hF:Hid (fineN g d=true):=by unfold Hid;rw[hF5.out,l5];rfl
        rw[l5] at HCO
        clear l5
        go_wp2_with fail
        refine HCO.out.mono ?_
        rintro _ w9 ⟨rfl,rfl⟩
        go_wp2_with fail
        refine (open_c v1 cells sum a' n' c' g W0 (H'.out.mono fB)).mono ?_
        rintro _ w1 ⟨vu,rfl,hownu,hb1⟩
        obtain ⟨au,cu,rfl⟩:=owns_shape hownu
        have HKL:Hid ((openL g).length≤256):=by unfold Hid;have:=openTo_len g g.length;unfold openL;have:=hgl.out;omega
        have hicu:=Lib.hid (IC.of_owns hownu (by have:=HKL.out;omega)).1
        have hBw:=fB.trans (hb1.mono fB.size)
        have hz1:=hBw.size
        have HN1:=Lib.hid (keepq hb1 HN0.out)
        clear hownu x3 xl y1 y2 y3 yl x0 x1 x2
        go_wp2_with fail
        go_loopw [6,11,95] (fun v _ iv wv=>∃(j:Nat) (ao:Option Addr) (co:Nat),j≤(openL g).length∧iv = .int .i64 j∧v = .slice ao j co∧wv.ownsRow w1.heap.size 67 2 (.slice ao j co) j (pairsL (((openL g).take j).map fun x=>(x,d.number)))∧Below w1.heap.size w1 wv) (fun _ _ iv _=>(openL g).length - (intOf iv).toNat)
        case atStart=>exact ⟨0,none,0,by omega,rfl,rfl,World.ownsRow_nil _ _ _ _,Below.refl _ _⟩
        case round =>
         obtain ⟨j,ao,co,hj,rfl,rfl,hown,hbj⟩:=hrel
         have hBr:=hBw.trans (hbj.mono hBw.size)
         have HNr:=Lib.hid (keepq hbj HN1.out)
         by_cases hlt:j<(openL g).length
         ·obtain ⟨bu,ou,rfl,hbu,hcu⟩:=(hicu.out.mono hbj).2 j hlt
          have hji:(j:Int)<((openL g).length:Int):=by omega
          have hTS:=Lib.hid (take_snoc (openL g) 0 j hlt)
          generalize (openL g)[j]?.getD 0=x at hcu hTS
          have hkl:=HKL.out
          have y3:wr.cell? ⟨w.heap.size+1,3,none⟩=some (.int .i64 d.number):=q_cell HNr.out 3
          have hnl:=q_lt HNr.out
          have hzr:=hbj.size
          go_wp2_with (first|(at_builtin;refine wpList_append_own _ rfl _ _ 64 rfl w1.heap.size 67 i0 (.agg #[.int .i64 0,.int .i64 0]) 2 16 Tryz.underlying64 hi hz0 hzz hz2 rfl (by decide) _ _ _ rfl (hown.alloc _) ⟨wr.heap.size,0,none⟩ 1 1 [.int .i64 x,.int .i64 d.number] rfl rfl (cell_new2 _ _ _ _) (by simp[Value.oneCell']) (by unfold maxLen;omega) (by omega) (by simp;omega) ?_))
          intro v' w3 hown' hgrow _
          obtain ⟨av,cv,rfl⟩:=owns_slice4 hown'
          have hb3:Below w1.heap.size w1 w3:=hbj.trans ((grow_s0 hgrow).below (B:=w1.heap.size) (by omega) (fun i e=>owns_ge hown e))
          have hown3:w3.ownsRow w1.heap.size 67 2 (.slice av (j+1) cv) (j+1) (pairsL (((openL g).take (j+1)).map fun x=>(x,d.number))):=by
           rw[hTS.out,List.map_append]
           simp only[List.map_cons,List.map_nil]
           rw[pairsL_snoc,List.map_take]
           exact hown'
          clear hown' hgrow hown
          go_wp2_with fail
          go_roundw
          case rel=>exact ⟨j+1,av,cv,by omega,by go_num,rfl,hown3,hb3⟩
          case measure=>simp[intOf];omega
         ·have e:j=(openL g).length:=by omega
          subst e
          have hlo:=HKL.out
          have c4:wr.cell? ⟨w.heap.size+1,4,none⟩=some (.int .i64 d.kids):=q_cell HNr.out 4
          have hnl:=q_lt HNr.out
          go_wp2_with fail
          refine wp_region_S (fun w'=>∃u,w'=over (wr) u) [10] [(0,0),(0,1),(0,2),(0,3),(0,4),(0,5),(0,6),(0,7),(0,8),(1,9),(2,10)] (by kernel_rfl) (by kernel_rfl) (by exact ⟨_,below_over (by repeat (first|assumption|exact Below.refl _ _|refine keep_drew ?_|refine keep_alloc ?_ _|refine keep_trans ?_ (by assumption)))⟩) ?_
          dsimp only[pickOps,nthOp]
          repeat (first|(refine wpS_skip rfl (fun K hK=>?_);go_big_quiet_op;refine hK _ ?_;clear hK K)|(refine wpS_quiet rfl rfl (fun K hK=>?_);go_big_quiet_op;refine hK _ ?_;clear hK K)|(refine wpS_loud ?_;go_wp2;refine ⟨?_,?_⟩;focus (exact ⟨_,below_over (by repeat (first|assumption|exact Below.refl _ _|refine keep_drew ?_|refine keep_alloc ?_ _|refine keep_trans ?_ (by assumption)))⟩)))
          refine wpS_late _ _ _ rfl ?_
          dsimp only[List.map]
          go_wp2
          refine NoPanic.normal ?_
          go_wp2
          go_ret2
          have hKe:kidsN g d=(openL g).map fun x=>(x,d.number):=HK.out
          have hln:(kidsN g d).length=(openL g).length:=by rw[hKe,List.length_map]
          refine ⟨ao,co,?_,?_,hBr.drew⟩
          ·rw[hln]
           unfold okN
           rw[hF.out,hln]
           rfl
          ·rw[hln,hKe]
           rw[List.take_length] at hown
           exact owns_base hown (by omega)
      ·have hF:Hid (fineN g d=false):=by unfold Hid;rw[HFK.out,hgl.out,decide_eq_false l4];simp
       go_wp2_with fail
       refine (open_c v1 cells sum a' n' c' g W0 (H'.out.mono fB)).mono ?_
       rintro _ w1 ⟨vu,rfl,hownu,hb1⟩
       obtain ⟨au,cu,rfl⟩:=owns_shape hownu
       have HKL:Hid ((openL g).length≤256):=by unfold Hid;have:=openTo_len g g.length;unfold openL;have:=hgl.out;omega
       have hicu:=Lib.hid (IC.of_owns hownu (by have:=HKL.out;omega)).1
       have hBw:=fB.trans (hb1.mono fB.size)
       have hz1:=hBw.size
       have HN1:=Lib.hid (keepq hb1 HN0.out)
       clear hownu x3 xl y1 y2 y3 yl x0 x1 x2
       go_wp2_with fail
       go_loopw [6,11,95] (fun v _ iv wv=>∃(j:Nat) (ao:Option Addr) (co:Nat),j≤(openL g).length∧iv = .int .i64 j∧v = .slice ao j co∧wv.ownsRow w1.heap.size 67 2 (.slice ao j co) j (pairsL (((openL g).take j).map fun x=>(x,d.number)))∧Below w1.heap.size w1 wv) (fun _ _ iv _=>(openL g).length - (intOf iv).toNat)
       case atStart=>exact ⟨0,none,0,by omega,rfl,rfl,World.ownsRow_nil _ _ _ _,Below.refl _ _⟩
       case round =>
        obtain ⟨j,ao,co,hj,rfl,rfl,hown,hbj⟩:=hrel
        have hBr:=hBw.trans (hbj.mono hBw.size)
        have HNr:=Lib.hid (keepq hbj HN1.out)
        by_cases hlt:j<(openL g).length
        ·obtain ⟨bu,ou,rfl,hbu,hcu⟩:=(hicu.out.mono hbj).2 j hlt
         have hji:(j:Int)<((openL g).length:Int):=by omega
         have hTS:=Lib.hid (take_snoc (openL g) 0 j hlt)
         generalize (openL g)[j]?.getD 0=x at hcu hTS
         have hkl:=HKL.out
         have y3:wr.cell? ⟨w.heap.size+1,3,none⟩=some (.int .i64 d.number):=q_cell HNr.out 3
         have hnl:=q_lt HNr.out
         have hzr:=hbj.size
         go_wp2_with (first|(at_builtin;refine wpList_append_own _ rfl _ _ 64 rfl w1.heap.size 67 i0 (.agg #[.int .i64 0,.int .i64 0]) 2 16 Tryz.underlying64 hi hz0 hzz hz2 rfl (by decide) _ _ _ rfl (hown.alloc _) ⟨wr.heap.size,0,none⟩ 1 1 [.int .i64 x,.int .i64 d.number] rfl rfl (cell_new2 _ _ _ _) (by simp[Value.oneCell']) (by unfold maxLen;omega) (by omega) (by simp;omega) ?_))
         intro v' w3 hown' hgrow _
         obtain ⟨av,cv,rfl⟩:=owns_slice4 hown'
         have hb3:Below w1.heap.size w1 w3:=hbj.trans ((grow_s0 hgrow).below (B:=w1.heap.size) (by omega) (fun i e=>owns_ge hown e))
         have hown3:w3.ownsRow w1.heap.size 67 2 (.slice av (j+1) cv) (j+1) (pairsL (((openL g).take (j+1)).map fun x=>(x,d.number))):=by
          rw[hTS.out,List.map_append]
          simp only[List.map_cons,List.map_nil]
          rw[pairsL_snoc,List.map_take]
          exact hown'
         clear hown' hgrow hown
         go_wp2_with fail
         go_roundw
         case rel=>exact ⟨j+1,av,cv,by omega,by go_num,rfl,hown3,hb3⟩
         case measure=>simp[intOf];omega
        ·have e:j=(openL g).length:=by omega
         subst e
         have hlo:=HKL.out
         have c4:wr.cell? ⟨w.heap.size+1,4,none⟩=some (.int .i64 d.kids):=q_cell HNr.out 4
         have hnl:=q_lt HNr.out
         go_wp2_with fail
         refine wp_region_S (fun w'=>∃u,w'=over (wr) u) [10] [(0,0),(0,1),(0,2),(0,3),(0,4),(0,5),(0,6),(0,7),(0,8),(1,9),(2,10)] (by kernel_rfl) (by kernel_rfl) (by exact ⟨_,below_over (by repeat (first|assumption|exact Below.refl _ _|refine keep_drew ?_|refine keep_alloc ?_ _|refine keep_trans ?_ (by assumption)))⟩) ?_
         dsimp only[pickOps,nthOp]
         repeat (first|(refine wpS_skip rfl (fun K hK=>?_);go_big_quiet_op;refine hK _ ?_;clear hK K)|(refine wpS_quiet rfl rfl (fun K hK=>?_);go_big_quiet_op;refine hK _ ?_;clear hK K)|(refine wpS_loud ?_;go_wp2;refine ⟨?_,?_⟩;focus (exact ⟨_,below_over (by repeat (first|assumption|exact Below.refl _ _|refine keep_drew ?_|refine keep_alloc ?_ _|refine keep_trans ?_ (by assumption)))⟩)))
         refine wpS_late _ _ _ rfl ?_
         dsimp only[List.map]
         go_wp2
         refine NoPanic.normal ?_
         go_wp2
         go_ret2
         have hKe:kidsN g d=(openL g).map fun x=>(x,d.number):=HK.out
         have hln:(kidsN g d).length=(openL g).length:=by rw[hKe,List.length_map]
         refine ⟨ao,co,?_,?_,hBr.drew⟩
         ·rw[hln]
          unfold okN
          rw[hF.out,hln]
          rfl
         ·rw[hln,hKe]
          rw[List.take_length] at hown
          exact owns_base hown (by omega)
     ·have m3:¬d.number≥1:=l3
      have hF:Hid (fineN g d=false):=by unfold Hid;rw[HFK.out,decide_eq_false l3];simp
      go_wp2_with fail
      refine (open_c v1 cells sum a' n' c' g W0 (H'.out.mono fB)).mono ?_
      rintro _ w1 ⟨vu,rfl,hownu,hb1⟩
      obtain ⟨au,cu,rfl⟩:=owns_shape hownu
      have HKL:Hid ((openL g).length≤256):=by unfold Hid;have:=openTo_len g g.length;unfold openL;have:=hgl.out;omega
      have hicu:=Lib.hid (IC.of_owns hownu (by have:=HKL.out;omega)).1
      have hBw:=fB.trans (hb1.mono fB.size)
      have hz1:=hBw.size
      have HN1:=Lib.hid (keepq hb1 HN0.out)
      clear hownu x3 xl y1 y2 y3 yl x0 x1 x2
      go_wp2_with fail
      go_loopw [6,11,95] (fun v _ iv wv=>∃(j:Nat) (ao:Option Addr) (co:Nat),j≤(openL g).length∧iv = .int .i64 j∧v = .slice ao j co∧wv.ownsRow w1.heap.size 67 2 (.slice ao j co) j (pairsL (((openL g).take j).map fun x=>(x,d.number)))∧Below w1.heap.size w1 wv) (fun _ _ iv _=>(openL g).length - (intOf iv).toNat)
      case atStart=>exact ⟨0,none,0,by omega,rfl,rfl,World.ownsRow_nil _ _ _ _,Below.refl _ _⟩
      case round =>
       obtain ⟨j,ao,co,hj,rfl,rfl,hown,hbj⟩:=hrel
       have hBr:=hBw.trans (hbj.mono hBw.size)
       have HNr:=Lib.hid (keepq hbj HN1.out)
       by_cases hlt:j<(openL g).length
       ·obtain ⟨bu,ou,rfl,hbu,hcu⟩:=(hicu.out.mono hbj).2 j hlt
        have hji:(j:Int)<((openL g).length:Int):=by omega
        have hTS:=Lib.hid (take_snoc (openL g) 0 j hlt)
        generalize (openL g)[j]?.getD 0=x at hcu hTS
        have hkl:=HKL.out
        have y3:wr.cell? ⟨w.heap.size+1,3,none⟩=some (.int .i64 d.number):=q_cell HNr.out 3
        have hnl:=q_lt HNr.out
        have hzr:=hbj.size
        go_wp2_with (first|(at_builtin;refine wpList_append_own _ rfl _ _ 64 rfl w1.heap.size 67 i0 (.agg #[.int .i64 0,.int .i64 0]) 2 16 Tryz.underlying64 hi hz0 hzz hz2 rfl (by decide) _ _ _ rfl (hown.alloc _) ⟨wr.heap.size,0,none⟩ 1 1 [.int .i64 x,.int .i64 d.number] rfl rfl (cell_new2 _ _ _ _) (by simp[Value.oneCell']) (by unfold maxLen;omega) (by omega) (by simp;omega) ?_))
        intro v' w3 hown' hgrow _
        obtain ⟨av,cv,rfl⟩:=owns_slice4 hown'
        have hb3:Below w1.heap.size w1 w3:=hbj.trans ((grow_s0 hgrow).below (B:=w1.heap.size) (by omega) (fun i e=>owns_ge hown e))
        have hown3:w3.ownsRow w1.heap.size 67 2 (.slice av (j+1) cv) (j+1) (pairsL (((openL g).take (j+1)).map fun x=>(x,d.number))):=by
         rw[hTS.out,List.map_append]
         simp only[List.map_cons,List.map_nil]
         rw[pairsL_snoc,List.map_take]
         exact hown'
        clear hown' hgrow hown
        go_wp2_with fail
        go_roundw
        case rel=>exact ⟨j+1,av,cv,by omega,by go_num,rfl,hown3,hb3⟩
        case measure=>simp[intOf];omega
       ·have e:j=(openL g).length:=by omega
        subst e
        have hlo:=HKL.out
        have c4:wr.cell? ⟨w.heap.size+1,4,none⟩=some (.int .i64 d.kids):=q_cell HNr.out 4
        have hnl:=q_lt HNr.out
        go_wp2_with fail
        refine wp_region_S (fun w'=>∃u,w'=over (wr) u) [10] [(0,0),(0,1),(0,2),(0,3),(0,4),(0,5),(0,6),(0,7),(0,8),(1,9),(2,10)] (by kernel_rfl) (by kernel_rfl) (by exact ⟨_,below_over (by repeat (first|assumption|exact Below.refl _ _|refine keep_drew ?_|refine keep_alloc ?_ _|refine keep_trans ?_ (by assumption)))⟩) ?_
        dsimp only[pickOps,nthOp]
        repeat (first|(refine wpS_skip rfl (fun K hK=>?_);go_big_quiet_op;refine hK _ ?_;clear hK K)|(refine wpS_quiet rfl rfl (fun K hK=>?_);go_big_quiet_op;refine hK _ ?_;clear hK K)|(refine wpS_loud ?_;go_wp2;refine ⟨?_,?_⟩;focus (exact ⟨_,below_over (by repeat (first|assumption|exact Below.refl _ _|refine keep_drew ?_|refine keep_alloc ?_ _|refine keep_trans ?_ (by assumption)))⟩)))
        refine wpS_late _ _ _ rfl ?_
        dsimp only[List.map]
        go_wp2
        refine NoPanic.normal ?_
        go_wp2
        go_ret2
        have hKe:kidsN g d=(openL g).map fun x=>(x,d.number):=HK.out
        have hln:(kidsN g d).length=(openL g).length:=by rw[hKe,List.length_map]
        refine ⟨ao,co,?_,?_,hBr.drew⟩
        ·rw[hln]
         unfold okN
         rw[hF.out,hln]
         rfl
        ·rw[hln,hKe]
         rw[List.take_length] at hown
         exact owns_base hown (by omega)
    ·have m2:(d.cell==0)=false:=by simpa using l2
     have hF:Hid (fineN g d=false):=by unfold Hid;rw[HFK.out,m2];simp
     go_wp2_with fail
     refine (open_c v1 cells sum a' n' c' g W0 (H'.out.mono fB)).mono ?_
     rintro _ w1 ⟨vu,rfl,hownu,hb1⟩
     obtain ⟨au,cu,rfl⟩:=owns_shape hownu
     have HKL:Hid ((openL g).length≤256):=by unfold Hid;have:=openTo_len g g.length;unfold openL;have:=hgl.out;omega
     have hicu:=Lib.hid (IC.of_owns hownu (by have:=HKL.out;omega)).1
     have hBw:=fB.trans (hb1.mono fB.size)
     have hz1:=hBw.size
     have HN1:=Lib.hid (keepq hb1 HN0.out)
     clear hownu x3 xl y1 y2 y3 yl x0 x1 x2
     go_wp2_with fail
     go_loopw [6,11,95] (fun v _ iv wv=>∃(j:Nat) (ao:Option Addr) (co:Nat),j≤(openL g).length∧iv = .int .i64 j∧v = .slice ao j co∧wv.ownsRow w1.heap.size 67 2 (.slice ao j co) j (pairsL (((openL g).take j).map fun x=>(x,d.number)))∧Below w1.heap.size w1 wv) (fun _ _ iv _=>(openL g).length - (intOf iv).toNat)
     case atStart=>exact ⟨0,none,0,by omega,rfl,rfl,World.ownsRow_nil _ _ _ _,Below.refl _ _⟩
     case round =>
      obtain ⟨j,ao,co,hj,rfl,rfl,hown,hbj⟩:=hrel
      have hBr:=hBw.trans (hbj.mono hBw.size)
      have HNr:=Lib.hid (keepq hbj HN1.out)
      by_cases hlt:j<(openL g).length
      ·obtain ⟨bu,ou,rfl,hbu,hcu⟩:=(hicu.out.mono hbj).2 j hlt
       have hji:(j:Int)<((openL g).length:Int):=by omega
       have hTS:=Lib.hid (take_snoc (openL g) 0 j hlt)
       generalize (openL g)[j]?.getD 0=x at hcu hTS
       have hkl:=HKL.out
       have y3:wr.cell? ⟨w.heap.size+1,3,none⟩=some (.int .i64 d.number):=q_cell HNr.out 3
       have hnl:=q_lt HNr.out
       have hzr:=hbj.size
       go_wp2_with (first|(at_builtin;refine wpList_append_own _ rfl _ _ 64 rfl w1.heap.size 67 i0 (.agg #[.int .i64 0,.int .i64 0]) 2 16 Tryz.underlying64 hi hz0 hzz hz2 rfl (by decide) _ _ _ rfl (hown.alloc _) ⟨wr.heap.size,0,none⟩ 1 1 [.int .i64 x,.int .i64 d.number] rfl rfl (cell_new2 _ _ _ _) (by simp[Value.oneCell']) (by unfold maxLen;omega) (by omega) (by simp;omega) ?_))
       intro v' w3 hown' hgrow _
       obtain ⟨av,cv,rfl⟩:=owns_slice4 hown'
       have hb3:Below w1.heap.size w1 w3:=hbj.trans ((grow_s0 hgrow).below (B:=w1.heap.size) (by omega) (fun i e=>owns_ge hown e))
       have hown3:w3.ownsRow w1.heap.size 67 2 (.slice av (j+1) cv) (j+1) (pairsL (((openL g).take (j+1)).map fun x=>(x,d.number))):=by
        rw[hTS.out,List.map_append]
        simp only[List.map_cons,List.map_nil]
        rw[pairsL_snoc,List.map_take]
        exact hown'
       clear hown' hgrow hown
       go_wp2_with fail
       go_roundw
       case rel=>exact ⟨j+1,av,cv,by omega,by go_num,rfl,hown3,hb3⟩
       case measure=>simp[intOf];omega
      ·have e:j=(openL g).length:=by omega
       subst e
       have hlo:=HKL.out
       have c4:wr.cell? ⟨w.heap.size+1,4,none⟩=some (.int .i64 d.kids):=q_cell HNr.out 4
       have hnl:=q_lt HNr.out
       go_wp2_with fail
       refine wp_region_S (fun w'=>∃u,w'=over (wr) u) [10] [(0,0),(0,1),(0,2),(0,3),(0,4),(0,5),(0,6),(0,7),(0,8),(1,9),(2,10)] (by kernel_rfl) (by kernel_rfl) (by exact ⟨_,below_over (by repeat (first|assumption|exact Below.refl _ _|refine keep_drew ?_|refine keep_alloc ?_ _|refine keep_trans ?_ (by assumption)))⟩) ?_
       dsimp only[pickOps,nthOp]
       repeat (first|(refine wpS_skip rfl (fun K hK=>?_);go_big_quiet_op;refine hK _ ?_;clear hK K)|(refine wpS_quiet rfl rfl (fun K hK=>?_);go_big_quiet_op;refine hK _ ?_;clear hK K)|(refine wpS_loud ?_;go_wp2;refine ⟨?_,?_⟩;focus (exact ⟨_,below_over (by repeat (first|assumption|exact Below.refl _ _|refine keep_drew ?_|refine keep_alloc ?_ _|refine keep_trans ?_ (by assumption)))⟩)))
       refine wpS_late _ _ _ rfl ?_
       dsimp only[List.map]
       go_wp2
       refine NoPanic.normal ?_
       go_wp2
       go_ret2
       have hKe:kidsN g d=(openL g).map fun x=>(x,d.number):=HK.out
       have hln:(kidsN g d).length=(openL g).length:=by rw[hKe,List.length_map]
       refine ⟨ao,co,?_,?_,hBr.drew⟩
       ·rw[hln]
        unfold okN
        rw[hF.out,hln]
        rfl
       ·rw[hln,hKe]
        rw[List.take_length] at hown
        exact owns_base hown (by omega)
   ·have m1:(d.line==0)=false:=by simpa using l1
    have hF:Hid (fineN g d=false):=by unfold Hid;rw[HFK.out,m1];simp
    go_wp2_with fail
    refine (open_c v1 cells sum a' n' c' g W0 (H'.out.mono fB)).mono ?_
    rintro _ w1 ⟨vu,rfl,hownu,hb1⟩
    obtain ⟨au,cu,rfl⟩:=owns_shape hownu
    have HKL:Hid ((openL g).length≤256):=by unfold Hid;have:=openTo_len g g.length;unfold openL;have:=hgl.out;omega
    have hicu:=Lib.hid (IC.of_owns hownu (by have:=HKL.out;omega)).1
    have hBw:=fB.trans (hb1.mono fB.size)
    have hz1:=hBw.size
    have HN1:=Lib.hid (keepq hb1 HN0.out)
    clear hownu x3 xl y1 y2 y3 yl x0 x1 x2
    go_wp2_with fail
    go_loopw [6,11,95] (fun v _ iv wv=>∃(j:Nat) (ao:Option Addr) (co:Nat),j≤(openL g).length∧iv = .int .i64 j∧v = .slice ao j co∧wv.ownsRow w1.heap.size 67 2 (.slice ao j co) j (pairsL (((openL g).take j).map fun x=>(x,d.number)))∧Below w1.heap.size w1 wv) (fun _ _ iv _=>(openL g).length - (intOf iv).toNat)
    case atStart=>exact ⟨0,none,0,by omega,rfl,rfl,World.ownsRow_nil _ _ _ _,Below.refl _ _⟩
    case round =>
     obtain ⟨j,ao,co,hj,rfl,rfl,hown,hbj⟩:=hrel
     have hBr:=hBw.trans (hbj.mono hBw.size)
     have HNr:=Lib.hid (keepq hbj HN1.out)
     by_cases hlt:j<(openL g).length
     ·obtain ⟨bu,ou,rfl,hbu,hcu⟩:=(hicu.out.mono hbj).2 j hlt
      have hji:(j:Int)<((openL g).length:Int):=by omega
      have hTS:=Lib.hid (take_snoc (openL g) 0 j hlt)
      generalize (openL g)[j]?.getD 0=x at hcu hTS
      have hkl:=HKL.out
      have y3:wr.cell? ⟨w.heap.size+1,3,none⟩=some (.int .i64 d.number):=q_cell HNr.out 3
      have hnl:=q_lt HNr.out
      have hzr:=hbj.size
      go_wp2_with (first|(at_builtin;refine wpList_append_own _ rfl _ _ 64 rfl w1.heap.size 67 i0 (.agg #[.int .i64 0,.int .i64 0]) 2 16 Tryz.underlying64 hi hz0 hzz hz2 rfl (by decide) _ _ _ rfl (hown.alloc _) ⟨wr.heap.size,0,none⟩ 1 1 [.int .i64 x,.int .i64 d.number] rfl rfl (cell_new2 _ _ _ _) (by simp[Value.oneCell']) (by unfold maxLen;omega) (by omega) (by simp;omega) ?_))
      intro v' w3 hown' hgrow _
      obtain ⟨av,cv,rfl⟩:=owns_slice4 hown'
      have hb3:Below w1.heap.size w1 w3:=hbj.trans ((grow_s0 hgrow).below (B:=w1.heap.size) (by omega) (fun i e=>owns_ge hown e))
      have hown3:w3.ownsRow w1.heap.size 67 2 (.slice av (j+1) cv) (j+1) (pairsL (((openL g).take (j+1)).map fun x=>(x,d.number))):=by
       rw[hTS.out,List.map_append]
       simp only[List.map_cons,List.map_nil]
       rw[pairsL_snoc,List.map_take]
       exact hown'
      clear hown' hgrow hown
      go_wp2_with fail
      go_roundw
      case rel=>exact ⟨j+1,av,cv,by omega,by go_num,rfl,hown3,hb3⟩
      case measure=>simp[intOf];omega
     ·have e:j=(openL g).length:=by omega
      subst e
      have hlo:=HKL.out
      have c4:wr.cell? ⟨w.heap.size+1,4,none⟩=some (.int .i64 d.kids):=q_cell HNr.out 4
      have hnl:=q_lt HNr.out
      go_wp2_with fail
      refine wp_region_S (fun w'=>∃u,w'=over (wr) u) [10] [(0,0),(0,1),(0,2),(0,3),(0,4),(0,5),(0,6),(0,7),(0,8),(1,9),(2,10)] (by kernel_rfl) (by kernel_rfl) (by exact ⟨_,below_over (by repeat (first|assumption|exact Below.refl _ _|refine keep_drew ?_|refine keep_alloc ?_ _|refine keep_trans ?_ (by assumption)))⟩) ?_
      dsimp only[pickOps,nthOp]
      repeat (first|(refine wpS_skip rfl (fun K hK=>?_);go_big_quiet_op;refine hK _ ?_;clear hK K)|(refine wpS_quiet rfl rfl (fun K hK=>?_);go_big_quiet_op;refine hK _ ?_;clear hK K)|(refine wpS_loud ?_;go_wp2;refine ⟨?_,?_⟩;focus (exact ⟨_,below_over (by repeat (first|assumption|exact Below.refl _ _|refine keep_drew ?_|refine keep_alloc ?_ _|refine keep_trans ?_ (by assumption)))⟩)))
      refine wpS_late _ _ _ rfl ?_
      dsimp only[List.map]
      go_wp2
      refine NoPanic.normal ?_
      go_wp2
      go_ret2
      have hKe:kidsN g d=(openL g).map fun x=>(x,d.number):=HK.out
      have hln:(kidsN g d).length=(openL g).length:=by rw[hKe,List.length_map]
      refine ⟨ao,co,?_,?_,hBr.drew⟩
      ·rw[hln]
       unfold okN
       rw[hF.out,hln]
       rfl
      ·rw[hln,hKe]
       rw[List.take_length] at hown
       exact owns_base hown (by omega)
  | false =>
   have hKN:(d.kind.toList==[110,117,109,98,101,114])=false:=by rw[← kNumber_l];exact hC2
   have hF:=Lib.hid (fine_other (g:=g) hC hC2).1
   have HK:=Lib.hid (fine_other (g:=g) hC hC2).2
   clear hC hC2
   go_wp2_with fail
   refine wp_region_S (fun w'=>∃u,w'=over (W0) u) [10] [(0,0),(0,1),(0,2),(0,3),(0,4),(0,5),(0,6),(0,7),(0,8),(1,9),(2,10)] (by kernel_rfl) (by kernel_rfl) (by exact ⟨_,below_over (by repeat (first|assumption|exact Below.refl _ _|refine keep_drew ?_|refine keep_alloc ?_ _|refine keep_trans ?_ (by assumption)))⟩) ?_
   dsimp only[pickOps,nthOp]
   repeat (first|(refine wpS_skip rfl (fun K hK=>?_);go_big_quiet_op;refine hK _ ?_;clear hK K)|(refine wpS_quiet rfl rfl (fun K hK=>?_);go_big_quiet_op;refine hK _ ?_;clear hK K)|(refine wpS_loud ?_;go_wp2;refine ⟨?_,?_⟩;focus (exact ⟨_,below_over (by repeat (first|assumption|exact Below.refl _ _|refine keep_drew ?_|refine keep_alloc ?_ _|refine keep_trans ?_ (by assumption)))⟩)))
   refine wpS_late _ _ _ rfl ?_
   dsimp only[List.map]
   go_wp2
   refine NoPanic.normal ?_
   go_wp2
   go_ret2
   refine ⟨none,0,?_,?_,fB.drew⟩
   ·rw[HK.out]
    unfold okN
    rw[hF.out]
    rfl
   ·rw[HK.out]
    exact World.ownsRow_nil _ _ _ _
end
end Go.Proofs.YtaadpihbjhachaaGreat
