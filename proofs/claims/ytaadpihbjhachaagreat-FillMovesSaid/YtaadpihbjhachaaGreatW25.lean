/- Texts N3 to N3 of this proof, in one file. -/
import Derived.Test.YtaadpihbjhachaaGreatW11
import Derived.Test.YtaadpihbjhachaaGreatW24
namespace Go.Proofs.YtaadpihbjhachaaGreat
set_option maxRecDepth 100000
set_option maxHeartbeats 16000000
section
open Go Go.RowKit
attribute [local go_sem] zv
attribute [local go_sem] Oper.semAt_some
def RefIH (cells:Int) (ls:List (List Int)) (sum:Int) (w0:World) (a:Option Addr) (n c n':Nat) (at':Option Addr) (nt ct:Nat) (T:List Nd) (f:Nat):Prop :=
 ∀(g:List Int) (i:Nat) (a':Option Addr) (c':Nat) (w:World),GoodTask cells ls sum g→i≤nt→nt - i<f→IC w a' n' g→Below w0.heap.size w0 w →
  Calls Tryz.prog 79 #[.agg #[.int .i64 cells,.slice a n c,.int .i64 sum,.slice a' n' c'],.slice at' nt ct,.int .i64 i] w fun e w'=>∃i':Nat,i'≤nt∧e = .returned (.tuple #[.int .i64 i',.bool (jr ls sum f g (T.drop i)).isSome])∧(∀R,jr ls sum f g (T.drop i)=some R→R=T.drop i')∧Below w.heap.size w w'
theorem refutes_end {ls:List (List Int)} {sum cells:Int} (w0:World) (a:Option Addr) (n c n':Nat) (at':Option Addr) (i ct:Nat) (T:List Nd) (htc:TC w0 at' i T) (f:Nat) (g:List Int) (a':Option Addr) (c':Nat) (w:World) :
  Calls Tryz.prog 79 #[.agg #[.int .i64 cells,.slice a n c,.int .i64 sum,.slice a' n' c'],.slice at' i ct,.int .i64 i] w fun e w'=>∃i':Nat,i'≤i∧e = .returned (.tuple #[.int .i64 i',.bool (jr ls sum (f+1) g (T.drop i)).isSome])∧(∀R,jr ls sum (f+1) g (T.drop i)=some R→R=T.drop i')∧Below w.heap.size w w':=by
 have hns:=htc.1.2
 have hdrop:T.drop i=[]:=List.drop_eq_nil_of_le (by rw[htc.1.1];exact Nat.le_refl _)
 have HD:=za hdrop
 clear hdrop htc
 go_enter Tryz.func79,Tryz.ntmps79
 go_wp2_with fail
 go_ret2
 exact ⟨i,Nat.le_refl _,by rw[HD.out];rfl,fun R h=>(by rw[HD.out] at h;cases h),(Below.refl _ _).alloc (Nat.le_refl _) _⟩
theorem refutes_line {cells:Int} {ls:List (List Int)} {sum:Int} (w0:World) (a:Option Addr) (n c n':Nat) (hrc:RC w0 a n ls) (_:n'≤256) (at':Option Addr) (nt ct:Nat) (T:List Nd) (htc:TC w0 at' nt T) (f:Nat) (g:List Int) (i:Nat) (a':Option Addr) (c':Nat) (w:World) (ih:RefIH cells ls sum w0 a n c n' at' nt ct T f) (hG:GoodTask cells ls sum g) (hlt:i<nt) (_:nt - i<f+1) (hic:IC w a' n' g) (hbw:Below w0.heap.size w0 w) (d:Nd) (hd:T[i]?=some d) (_:qm d.kind=true) (hK:isK d.kind kLine=true) :
  Calls Tryz.prog 79 #[.agg #[.int .i64 cells,.slice a n c,.int .i64 sum,.slice a' n' c'],.slice at' nt ct,.int .i64 i] w fun e w'=>∃i':Nat,i'≤nt∧e = .returned (.tuple #[.int .i64 i',.bool (jr ls sum (f+1) g (T.drop i)).isSome])∧(∀R,jr ls sum (f+1) g (T.drop i)=some R→R=T.drop i')∧Below w.heap.size w w':=by
 have hns:=htc.1.2
 have htl:=za htc.1.1
 have HIH:=za ih
 have HG:=za hG
 have HIC:=za hic
 have HTC:=za (htc.mono hbw)
 have HRC:=za (hrc.mono hbw)
 have HBW:=za hbw
 have hgl:=za hic.len
 have hll:=za hrc.len
 clear ih hG hic hbw
 have HDR:Hid (T.drop i=d :: T.drop (i+1)):=by
  unfold Hid
  have hl:i<T.length:=by rw[htl.out];exact hlt
  rw[List.drop_eq_getElem_cons hl]
  rw[List.getElem?_eq_getElem hl] at hd
  rw[Option.some.inj hd]
 obtain ⟨bt,off,rfl,hbt,t0,t1,t2,t3,t4⟩:=HTC.out.2 i d hd
 have hil:(i:Int)<(nt:Int):=by omega
 have hnge:¬(nt:Int)≤(i:Int):=by omega
 clear hd
 go_enter Tryz.func79,Tryz.ntmps79
 go_upto_region 5 with fail
 have fsz:((w.alloc (.cells #[.int .i64 cells,.slice a n c,.int .i64 sum,.slice a' n' c'] 30)).alloc (.cells #[.string d.kind,.int .i64 d.cell,.int .i64 d.line,.int .i64 d.number,.int .i64 d.kids] 104)).heap.size=w.heap.size+2:=by simp only[World.size_alloc] <;> omega
 have fB:Below w.heap.size w ((w.alloc (.cells #[.int .i64 cells,.slice a n c,.int .i64 sum,.slice a' n' c'] 30)).alloc (.cells #[.string d.kind,.int .i64 d.cell,.int .i64 d.line,.int .i64 d.number,.int .i64 d.kids] 104)):=((Below.refl _ _).alloc (Nat.le_refl _) _).alloc (by simp only[World.size_alloc];omega) _
 have fq0:((w.alloc (.cells #[.int .i64 cells,.slice a n c,.int .i64 sum,.slice a' n' c'] 30)).alloc (.cells #[.string d.kind,.int .i64 d.cell,.int .i64 d.line,.int .i64 d.number,.int .i64 d.kids] 104)).heap[w.heap.size]?=some (.cells #[.int .i64 cells,.slice a n c,.int .i64 sum,.slice a' n' c'] 30 (0,0)):=by have h:=World.alloc_heap_new w (.cells #[.int .i64 cells,.slice a n c,.int .i64 sum,.slice a' n' c'] 30);exact (Below.heap_alloc _ _ _ (by simp only[World.size_alloc];omega)).trans (h)
 have fq1:((w.alloc (.cells #[.int .i64 cells,.slice a n c,.int .i64 sum,.slice a' n' c'] 30)).alloc (.cells #[.string d.kind,.int .i64 d.cell,.int .i64 d.line,.int .i64 d.number,.int .i64 d.kids] 104)).heap[w.heap.size+1]?=some (.cells #[.string d.kind,.int .i64 d.cell,.int .i64 d.line,.int .i64 d.number,.int .i64 d.kids] 104 (0,0)):=by have h:=World.alloc_heap_new (w.alloc (.cells #[.int .i64 cells,.slice a n c,.int .i64 sum,.slice a' n' c'] 30)) (.cells #[.string d.kind,.int .i64 d.cell,.int .i64 d.line,.int .i64 d.number,.int .i64 d.kids] 104);simp only[World.size_alloc] at h;exact h
 generalize ((w.alloc (.cells #[.int .i64 cells,.slice a n c,.int .i64 sum,.slice a' n' c'] 30)).alloc (.cells #[.string d.kind,.int .i64 d.cell,.int .i64 d.line,.int .i64 d.number,.int .i64 d.kids] 104))=W3 at fsz fB fq0 fq1 ⊢
 have HQ3:=za fq0
 have HN3:=za fq1
 have x0:W3.cell? ⟨w.heap.size,0,none⟩=some (.int .i64 cells):=zc fq0 0
 have x1:W3.cell? ⟨w.heap.size,1,none⟩=some (.slice a n c):=zc fq0 1
 have x2:W3.cell? ⟨w.heap.size,2,none⟩=some (.int .i64 sum):=zc fq0 2
 have x3:W3.cell? ⟨w.heap.size,3,none⟩=some (.slice a' n' c'):=zc fq0 3
 have xl:=zy fq0
 have y0:W3.cell? ⟨w.heap.size+1,0,none⟩=some (.string d.kind):=zc fq1 0
 have y1:W3.cell? ⟨w.heap.size+1,1,none⟩=some (.int .i64 d.cell):=zc fq1 1
 have y2:W3.cell? ⟨w.heap.size+1,2,none⟩=some (.int .i64 d.line):=zc fq1 2
 have y3:W3.cell? ⟨w.heap.size+1,3,none⟩=some (.int .i64 d.number):=zc fq1 3
 have y4:W3.cell? ⟨w.heap.size+1,4,none⟩=some (.int .i64 d.kids):=zc fq1 4
 have yl:=zy fq1
 clear fq0 fq1 fsz t0 t1 t2 t3 t4
 have hKL:(d.kind.toList==[108,105,110,101])=true:=by rw[← kLine_l];exact hK
 have hRE:Hid (jr ls sum (f+1) g (T.drop i)=if jO ls sum g d=true then some (T.drop (i+1)) else none):=by
  unfold Hid;rw[HDR.out];simp only[jr];rw[if_pos hK]
 have HLN:Hid (∀(b:Bool) (w':World),Below W3.heap.size W3 w'→jO ls sum g d=b→∃i':Nat,i'≤nt∧Ending.returned (.tuple #[.int .i64 ((i:Int)+1),.bool b]) = .returned (.tuple #[.int .i64 i',.bool (jr ls sum (f+1) g (T.drop i)).isSome])∧(∀R,jr ls sum (f+1) g (T.drop i)=some R→R=T.drop i')∧Below w.heap.size w w'):=fun b w' hb h=>by
  refine ⟨i+1,hlt,?_,?_,zb fB hb⟩
  ·rw[hRE.out,h];cases b <;> rfl
  ·intro R hR
   rw[hRE.out,h] at hR
   cases b
   ·cases hR
   ·exact (Option.some.inj hR).symm
 have hLD:Hid (jO ls sum g d=(d.cell==0&&d.number==0&&d.kids==0&&decide (0≤d.line)&&decide (d.line<ls.length)&&beyV (ls[d.line.toNat]?.getD []) g sum)):=rfl
 clear hK
 by_cases l1:d.cell=0
 ·have m1:(d.cell==0)=true:=by simpa using l1
  by_cases l2:d.number=0
  ·have m2:(d.number==0)=true:=by simpa using l2
   by_cases l3:d.kids=0
   ·have m3:(d.kids==0)=true:=by simpa using l3
    by_cases l4:0≤d.line
    ·have m4:¬d.line<0:=by omega
     by_cases l5:d.line<(n:Int)
     ·obtain ⟨li,hli⟩:∃li:Nat,d.line=(li:Int):=⟨d.line.toNat,by omega⟩
      have m5:¬(n:Int)≤(li:Int):=by omega
      have m6:¬(li:Int)<0:=by omega
      have LV:Hid (jO ls sum g d=beyV (ls[li]?.getD []) g sum):=by unfold Hid;rw[hLD.out,m1,m2,m3,decide_eq_true l4,hll.out,decide_eq_true l5,hli,Int.toNat_natCast];rfl
      have HBY:=za (rbounds_c HG.out a n c a' n' c' li W3 (HRC.out.mono fB) (HIC.out.mono fB) (by omega))
      have HBV:Hid (beyV (ls[li]?.getD []) g sum=(decide (sum<lowV (ls[li]?.getD []) g (zh g))||decide (highV (ls[li]?.getD []) g (zh g)<sum))):=rfl
      generalize lowV (ls[li]?.getD []) g (zh g)=lo at HBY HBV
      generalize highV (ls[li]?.getD []) g (zh g)=hi at HBY HBV
      rw[hli] at y2 l4 l5 m4
      rw[l1] at y1
      rw[l2] at y3
      rw[l3] at y4
      clear hli
      go_wp2_with fail
      refine HBY.out.mono ?_
      rintro _ w5 ⟨rfl,hb5⟩
      have hQ5:=zm hb5 HQ3.out
      have z2:w5.cell? ⟨w.heap.size,2,none⟩=some (.int .i64 sum):=zc hQ5 2
      have zl:=zy hQ5
      clear x0 x1 x2 x3 xl y0 y1 y2 y3 y4 yl hQ5
      by_cases c1:sum<lo
      ·have e1:decide (sum<lo)=true:=decide_eq_true c1
       go_wp2_with fail
       refine zk (fun w'=>∃u,w'=over (w5) u) [12] [(0,0),(0,1),(0,2),(0,3),(0,4),(0,5),(0,6),(0,7),(0,8),(0,9),(0,10),(1,11),(2,12)] (by kernel_rfl) (by kernel_rfl) (by exact ⟨_,zi (by repeat (first|assumption|exact Below.refl _ _|refine zd ?_|refine zg ?_ _|refine zb ?_ (by assumption)))⟩) ?_
       dsimp only[zt,zG]
       repeat (first|(refine zu rfl (fun K hK=>?_);go_big_quiet_op;refine hK _ ?_;clear hK K)|(refine zp rfl rfl (fun K hK=>?_);go_big_quiet_op;refine hK _ ?_;clear hK K)|(refine zE ?_;go_wp2;refine ⟨?_,?_⟩;focus (exact ⟨_,zi (by repeat (first|assumption|exact Below.refl _ _|refine zd ?_|refine zg ?_ _|refine zb ?_ (by assumption)))⟩)))
       refine zA _ _ _ rfl ?_
       dsimp only[List.map]
       go_wp2
       refine NoPanic.normal ?_
       go_wp2
       go_ret2
       exact HLN.out _ _ hb5.drew (by rw[LV.out,HBV.out,decide_eq_true c1];rfl)
      ·have e1:decide (sum<lo)=false:=decide_eq_false c1
       have E1:=za e1
       go_wp2_with fail
       refine zk (fun w'=>∃u,w'=over (w5) u) [12] [(0,0),(0,1),(0,2),(0,3),(0,4),(0,5),(0,6),(0,7),(0,8),(0,9),(0,10),(1,11),(2,12)] (by kernel_rfl) (by kernel_rfl) (by exact ⟨_,zi (by repeat (first|assumption|exact Below.refl _ _|refine zd ?_|refine zg ?_ _|refine zb ?_ (by assumption)))⟩) ?_
       dsimp only[zt,zG]
       repeat (first|(refine zu rfl (fun K hK=>?_);go_big_quiet_op;refine hK _ ?_;clear hK K)|(refine zp rfl rfl (fun K hK=>?_);go_big_quiet_op;refine hK _ ?_;clear hK K)|(refine zE ?_;go_wp2;refine ⟨?_,?_⟩;focus (exact ⟨_,zi (by repeat (first|assumption|exact Below.refl _ _|refine zd ?_|refine zg ?_ _|refine zb ?_ (by assumption)))⟩)))
       refine zA _ _ _ rfl ?_
       dsimp only[List.map]
       go_wp2
       refine NoPanic.normal ?_
       go_wp2
       go_ret2
       exact HLN.out _ _ hb5.drew (by rw[LV.out,HBV.out,E1.out];rfl)
     ·have LV:Hid (jO ls sum g d=false):=by unfold Hid;rw[hLD.out,hll.out,decide_eq_false l5];simp
      have m5:(n:Int)≤d.line:=by omega
      go_wp2_with fail
      go_ret2
      exact HLN.out _ _ (Below.refl _ _) LV.out
    ·have m4:d.line<0:=by omega
     have LV:Hid (jO ls sum g d=false):=by unfold Hid;rw[hLD.out,decide_eq_false l4];simp
     go_wp2_with fail
     go_ret2
     exact HLN.out _ _ (Below.refl _ _) LV.out
   ·have m3:(d.kids==0)=false:=by simpa using l3
    have LV:Hid (jO ls sum g d=false):=by unfold Hid;rw[hLD.out,m3];simp
    go_wp2_with fail
    go_ret2
    exact HLN.out _ _ (Below.refl _ _) LV.out
  ·have m2:(d.number==0)=false:=by simpa using l2
   have LV:Hid (jO ls sum g d=false):=by unfold Hid;rw[hLD.out,m2];simp
   go_wp2_with fail
   go_ret2
   exact HLN.out _ _ (Below.refl _ _) LV.out
 ·have m1:(d.cell==0)=false:=by simpa using l1
  have LV:Hid (jO ls sum g d=false):=by unfold Hid;rw[hLD.out,m1];simp
  go_wp2_with fail
  go_ret2
  exact HLN.out _ _ (Below.refl _ _) LV.out
theorem refutes_cell {cells:Int} {ls:List (List Int)} {sum:Int} (w0:World) (a:Option Addr) (n c n':Nat) (hrc:RC w0 a n ls) (hn2:n'≤256) (at':Option Addr) (nt ct:Nat) (T:List Nd) (htc:TC w0 at' nt T) (f:Nat) (g:List Int) (i:Nat) (a':Option Addr) (c':Nat) (w:World) (ih:RefIH cells ls sum w0 a n c n' at' nt ct T f) (hG:GoodTask cells ls sum g) (hlt:i<nt) (hfu:nt - i<f+1) (hic:IC w a' n' g) (hbw:Below w0.heap.size w0 w) (d:Nd) (hd:T[i]?=some d) (_:qm d.kind=true) (hK:isK d.kind kLine=false) (hC:isK d.kind kCell=true) :
  Calls Tryz.prog 79 #[.agg #[.int .i64 cells,.slice a n c,.int .i64 sum,.slice a' n' c'],.slice at' nt ct,.int .i64 i] w fun e w'=>∃i':Nat,i'≤nt∧e = .returned (.tuple #[.int .i64 i',.bool (jr ls sum (f+1) g (T.drop i)).isSome])∧(∀R,jr ls sum (f+1) g (T.drop i)=some R→R=T.drop i')∧Below w.heap.size w w':=by
 have hns:=htc.1.2
 have htl:=za htc.1.1
 have HIH:=za ih
 have HG:=za hG
 have HIC:=za hic
 have HTC:=za (htc.mono hbw)
 have HRC:=za (hrc.mono hbw)
 have HBW:=za hbw
 have hgl:=za hic.len
 have hll:=za hrc.len
 clear ih hG hic hbw
 have HDR:Hid (T.drop i=d :: T.drop (i+1)):=by
  unfold Hid
  have hl:i<T.length:=by rw[htl.out];exact hlt
  rw[List.drop_eq_getElem_cons hl]
  rw[List.getElem?_eq_getElem hl] at hd
  rw[Option.some.inj hd]
 obtain ⟨bt,off,rfl,hbt,t0,t1,t2,t3,t4⟩:=HTC.out.2 i d hd
 have hil:(i:Int)<(nt:Int):=by omega
 have hnge:¬(nt:Int)≤(i:Int):=by omega
 clear hd
 go_enter Tryz.func79,Tryz.ntmps79
 go_upto_region 5 with fail
 have fsz:((w.alloc (.cells #[.int .i64 cells,.slice a n c,.int .i64 sum,.slice a' n' c'] 30)).alloc (.cells #[.string d.kind,.int .i64 d.cell,.int .i64 d.line,.int .i64 d.number,.int .i64 d.kids] 104)).heap.size=w.heap.size+2:=by simp only[World.size_alloc] <;> omega
 have fB:Below w.heap.size w ((w.alloc (.cells #[.int .i64 cells,.slice a n c,.int .i64 sum,.slice a' n' c'] 30)).alloc (.cells #[.string d.kind,.int .i64 d.cell,.int .i64 d.line,.int .i64 d.number,.int .i64 d.kids] 104)):=((Below.refl _ _).alloc (Nat.le_refl _) _).alloc (by simp only[World.size_alloc];omega) _
 have fq0:((w.alloc (.cells #[.int .i64 cells,.slice a n c,.int .i64 sum,.slice a' n' c'] 30)).alloc (.cells #[.string d.kind,.int .i64 d.cell,.int .i64 d.line,.int .i64 d.number,.int .i64 d.kids] 104)).heap[w.heap.size]?=some (.cells #[.int .i64 cells,.slice a n c,.int .i64 sum,.slice a' n' c'] 30 (0,0)):=by have h:=World.alloc_heap_new w (.cells #[.int .i64 cells,.slice a n c,.int .i64 sum,.slice a' n' c'] 30);exact (Below.heap_alloc _ _ _ (by simp only[World.size_alloc];omega)).trans (h)
 have fq1:((w.alloc (.cells #[.int .i64 cells,.slice a n c,.int .i64 sum,.slice a' n' c'] 30)).alloc (.cells #[.string d.kind,.int .i64 d.cell,.int .i64 d.line,.int .i64 d.number,.int .i64 d.kids] 104)).heap[w.heap.size+1]?=some (.cells #[.string d.kind,.int .i64 d.cell,.int .i64 d.line,.int .i64 d.number,.int .i64 d.kids] 104 (0,0)):=by have h:=World.alloc_heap_new (w.alloc (.cells #[.int .i64 cells,.slice a n c,.int .i64 sum,.slice a' n' c'] 30)) (.cells #[.string d.kind,.int .i64 d.cell,.int .i64 d.line,.int .i64 d.number,.int .i64 d.kids] 104);simp only[World.size_alloc] at h;exact h
 generalize ((w.alloc (.cells #[.int .i64 cells,.slice a n c,.int .i64 sum,.slice a' n' c'] 30)).alloc (.cells #[.string d.kind,.int .i64 d.cell,.int .i64 d.line,.int .i64 d.number,.int .i64 d.kids] 104))=W3 at fsz fB fq0 fq1 ⊢
 have HQ3:=za fq0
 have HN3:=za fq1
 have x0:W3.cell? ⟨w.heap.size,0,none⟩=some (.int .i64 cells):=zc fq0 0
 have x1:W3.cell? ⟨w.heap.size,1,none⟩=some (.slice a n c):=zc fq0 1
 have x2:W3.cell? ⟨w.heap.size,2,none⟩=some (.int .i64 sum):=zc fq0 2
 have x3:W3.cell? ⟨w.heap.size,3,none⟩=some (.slice a' n' c'):=zc fq0 3
 have xl:=zy fq0
 have y0:W3.cell? ⟨w.heap.size+1,0,none⟩=some (.string d.kind):=zc fq1 0
 have y1:W3.cell? ⟨w.heap.size+1,1,none⟩=some (.int .i64 d.cell):=zc fq1 1
 have y2:W3.cell? ⟨w.heap.size+1,2,none⟩=some (.int .i64 d.line):=zc fq1 2
 have y3:W3.cell? ⟨w.heap.size+1,3,none⟩=some (.int .i64 d.number):=zc fq1 3
 have y4:W3.cell? ⟨w.heap.size+1,4,none⟩=some (.int .i64 d.kids):=zc fq1 4
 have yl:=zy fq1
 clear fq0 fq1 fsz t0 t1 t2 t3 t4
 have hKL:(d.kind.toList==[108,105,110,101])=false:=by rw[← kLine_l];exact hK
 have hRE:Hid (jr ls sum (f+1) g (T.drop i)=if okN g d=true then jP (jr ls sum f) g (zR g d) (T.drop (i+1)) else none):=by
  unfold Hid;rw[HDR.out];simp only[jr];rw[if_neg (by rw[hK];decide)]
 have HUN:=za (runused_c (.slice a n c) cells sum a' n' c' g W3 (HIC.out.mono fB))
 have HUL:Hid ((zh g).length≤256):=by unfold Hid;have:=jd g g.length;have:=HG.out.glen;unfold zh;omega
 have HOL:Hid ((zj g).length≤256):=by unfold Hid;have:=jA g g.length;have:=HG.out.glen;unfold zj;omega
 have hfc:=fine_cell (g:=g) hC
 have HKN:=za hfc.2
 have HFN:=za hfc.1
 have f2:(d.kind.toList==[99,101,108,108])=true:=by rw[← kCell_l];exact hC
 have f3:(d.kind.toList==[110,117,109,98,101,114])=false:=by
  have h1:d.kind.toList=[99,101,108,108]:=by simpa using f2
  rw[h1];decide
 have HOK:Hid (okN g d=((d.line==0&&d.number==0&&decide (0≤d.cell)&&decide (d.cell<g.length)&&g[d.cell.toNat]?.getD 0==0)&&(((zh g).length:Int)==d.kids))):=by
  unfold Hid okN;rw[hfc.1,hfc.2,List.length_map]
 clear hfc hC hK
 go_wp2_with fail
 refine HUN.out.mono ?_
 rintro _ w5 ⟨vu,rfl,hownu,hb5⟩
 obtain ⟨au,cu,rfl⟩:=zr hownu
 have HU:=za (IC.of_owns hownu (by have:=HUL.out;omega)).1
 have HQ5:=za (zm hb5 HQ3.out)
 have HN5:=za (zm hb5 HN3.out)
 have hbU:=zb fB hb5
 clear x0 x1 x2 x3 xl y0 y1 y2 y3 y4 yl hownu HUN
 have x3:w5.cell? ⟨w.heap.size,3,none⟩=some (.slice a' n' c'):=zc HQ5.out 3
 have xl:=zy HQ5.out
 have y0:w5.cell? ⟨w.heap.size+1,0,none⟩=some (.string d.kind):=zc HN5.out 0
 have y1:w5.cell? ⟨w.heap.size+1,1,none⟩=some (.int .i64 d.cell):=zc HN5.out 1
 have y2:w5.cell? ⟨w.heap.size+1,2,none⟩=some (.int .i64 d.line):=zc HN5.out 2
 have y3:w5.cell? ⟨w.heap.size+1,3,none⟩=some (.int .i64 d.number):=zc HN5.out 3
 have y4:w5.cell? ⟨w.heap.size+1,4,none⟩=some (.int .i64 d.kids):=zc HN5.out 4
 have yl:=zy HN5.out
 by_cases l1:d.number=0
 ·have m1:(d.number==0)=true:=by simpa using l1
  by_cases l2:d.line=0
  ·have m2:(d.line==0)=true:=by simpa using l2
   by_cases l3:0≤d.cell
   ·have m3:¬d.cell<0:=by omega
    by_cases l4:d.cell<(n':Int)
    ·obtain ⟨ci,hci⟩:∃ci:Nat,d.cell=(ci:Int):=⟨d.cell.toNat,by omega⟩
     have hcn0:ci<n':=by omega
     obtain ⟨bg,og,rfl,hbg,hcg⟩:=(HIC.out.mono hbU).2 ci hcn0
     have m4:¬(n':Int)≤(ci:Int):=by omega
     have m5:¬(ci:Int)<0:=by omega
     have m6:(ci:Int)<(n':Int):=by omega
     have m7:(0:Int)≤(ci:Int):=by omega
     rw[hci] at y1
     by_cases l5:g[ci]?.getD 0=0
     ·have m8:(g[ci]?.getD 0==0)=true:=by simpa using l5
      by_cases l6:d.kids=((zh g).length:Int)
      ·have LV:Hid (okN g d=true):=by unfold Hid;rw[HOK.out,m1,m2,decide_eq_true l3,hgl.out,decide_eq_true l4,hci,Int.toNat_natCast,m8,l6];simp
       rw[l1] at y3
       rw[l2] at y2
       rw[l5] at hcg
       rw[l6] at y4
       have mb4:decide (n'≤ci)=false:=decide_eq_false (by omega)
       have mb5:¬n'≤ci:=by omega
       have HCI:=za hci
       clear hci m8 l3 l4 m3
       rw[LV.out,if_pos rfl] at hRE
       have HKO:=za (kids_ok LV.out)
       clear LV
       have hW3w:=zy HQ5.out
       go_wp2_with fail
       go_loopw [2,12,13,14,15] (fun atv iv _ _ _ wv=>∃(j ij:Nat),j≤(zh g).length∧iv = .int .i64 j∧atv = .int .i64 ij∧i+1≤ij∧ij≤nt∧Hid (jP (jr ls sum f) g (zR g d) (T.drop (i+1))=jP (jr ls sum f) g ((zR g d).drop j) (T.drop ij))∧Below w5.heap.size w5 wv) (fun _ iv _ _ _ _=>(zh g).length - (intOf iv).toNat)
       case atStart=>exact ⟨0,i+1,by omega,rfl,rfl,Nat.le_refl _,hlt,rfl,Below.refl _ _⟩
       case round =>
        obtain ⟨j,ij,hj,rfl,rfl,hij1,hij2,hkr,hbr⟩:=hrel
        have hbW:=zb hbU hbr
        by_cases hlt2:j<(zh g).length
        ·obtain ⟨bk,ok,rfl,hbk,hck⟩:=(HU.out.mono hbr).2 j hlt2
         have hKN:(zR g d).length=(zh g).length:=by rw[HKN.out,List.length_map]
         have hkj:(zR g d)[j]?.getD (0,0)=(d.cell,(zh g)[j]?.getD 0):=by
          rw[HKN.out,List.getElem?_map,List.getElem?_eq_getElem hlt2];rfl
         have hkm:(zR g d)[j]?.getD (0,0)∈zR g d:=by rw[List.getElem?_eq_getElem (by omega)];exact List.getElem_mem (by omega)
         rw[hkj] at hkm
         obtain ⟨cc,hc1,hc2,hc3,hc4⟩:=HKO.out _ hkm
         simp only at hc1 hc4
         obtain ⟨x,hx⟩:∃x,(zh g)[j]?.getD 0=x:=⟨_,rfl⟩
         rw[hx] at hc4 hck
         have HCO:Hid (jP (jr ls sum f) g ((zR g d).drop j) (T.drop ij)=match jr ls sum f (g.set cc x) (T.drop ij) with
           | none=>none
           | some T'=>jP (jr ls sum f) g ((zR g d).drop (j+1)) T'):=by
          unfold Hid
          rw[List.drop_eq_getElem_cons (by omega:j<(zR g d).length)]
          rw[List.getElem?_eq_getElem (by omega),Option.getD_some] at hkj
          simp only[jP]
          rw[hkj]
          simp only[hc1,hx,Int.toNat_natCast]
          rfl
         have HC4:=za hc4
         have hcn:cc<n':=by have:=hgl.out;omega
         have hji:(j:Int)<((zh g).length:Int):=by omega
         have hKb:=HUL.out
         have hQr:=zm hbr HQ5.out
         have hNr:=zm hbr HN5.out
         have HQr:=za hQr
         have HNr:=za hNr
         have z0:wr.cell? ⟨w.heap.size,0,none⟩=some (.int .i64 cells):=zc hQr 0
         have z1:wr.cell? ⟨w.heap.size,1,none⟩=some (.slice a n c):=zc hQr 1
         have z2:wr.cell? ⟨w.heap.size,2,none⟩=some (.int .i64 sum):=zc hQr 2
         have z3:wr.cell? ⟨w.heap.size,3,none⟩=some (.slice (some ⟨bg,og,none⟩) n' c'):=zc hQr 3
         have zl:=zy hQr
         have q0:wr.cell? ⟨w.heap.size+1,0,none⟩=some (.string d.kind):=zc hNr 0
         have q1:wr.cell? ⟨w.heap.size+1,1,none⟩=some (.int .i64 d.cell):=zc hNr 1
         have q3:wr.cell? ⟨w.heap.size+1,3,none⟩=some (.int .i64 d.number):=zc hNr 3
         have ql:=zy hNr
         rw[hc1] at q1
         have HWI:=za (fun (W:World) (hb:Below wr.heap.size wr W)=>with6_c a n c cells sum (some ⟨bg,og,none⟩) n' c' g cc x W (HIC.out.mono (zb hbW hb)) hcn hn2)
         clear hQr hNr hkm hkj hc1 hc3 hc4 hx hKN
         go_upto_region 22 with fail
         refine wp_region_fork (fun w'=>∃u,w'=over (wr) u) [9] [0,1,2,3,4,5,6] 7 8 [(2,9)] (by kernel_rfl) (by kernel_rfl) (by exact ⟨_,zi (by repeat (first|assumption|exact Below.refl _ _|refine zd ?_|refine zg ?_ _|refine zb ?_ (by assumption)))⟩) ?_ ?_
         all_goals dsimp only[List.map,List.cons_append,List.nil_append,zt,zG]
         all_goals repeat (first|(refine zu rfl (fun K hK=>?_);go_big_quiet_op;refine hK _ ?_;clear hK K)|(refine zp rfl rfl (fun K hK=>?_);go_big_quiet_op;refine hK _ ?_;clear hK K)|(refine zE ?_;go_wp2_with (go_at_call 27;(first|refine (HWI.out _ (zd (Below.refl _ _))).mono ?_|refine (HWI.out _ (zd (zg (Below.refl _ _) _))).mono ?_|refine (HWI.out _ (zg (zd (Below.refl _ _)) _)).mono ?_);rintro _ w6 ⟨gb,cg,rfl,hi6,hcg6,hge6,hb6⟩);refine ⟨?_,?_⟩;focus (exact ⟨_,zi (by repeat (first|assumption|exact Below.refl _ _|refine zd ?_|refine zg ?_ _|refine zb ?_ (by assumption)))⟩)))
         all_goals refine zA _ _ _ rfl ?_
         all_goals dsimp only[List.map]
         focus
          go_wp2_with fail
          refine NoPanic.normal ?_
          have hb9:Below wr.heap.size wr (w6.alloc (.cells #[.int .i64 cells,.slice a n c,.int .i64 sum,.slice (some ⟨gb,0,none⟩) n' cg] 30)):=zg (zb (zd (Below.refl _ _)) hb6) _
          have q9:=World.alloc_heap_new w6 (.cells #[.int .i64 cells,.slice a n c,.int .i64 sum,.slice (some ⟨gb,0,none⟩) n' cg] 30)
          have hi9:IC (w6.alloc (.cells #[.int .i64 cells,.slice a n c,.int .i64 sum,.slice (some ⟨gb,0,none⟩) n' cg] 30)) (some ⟨gb,0,none⟩) n' (g.set cc x):=hi6.mono ((Below.refl _ _).alloc (Nat.le_refl _) _)
          clear hi6 hge6
          generalize (w6.alloc (.cells #[.int .i64 cells,.slice a n c,.int .i64 sum,.slice (some ⟨gb,0,none⟩) n' cg] 30))=W9 at hb9 q9 hi9 ⊢
          have hb9w:wr.heap.size≤w6.heap.size:=by have:=hb6.size;simpa using this
          clear hb6
          generalize w6.heap.size=b9 at q9 hb9w ⊢
         rotate_left
         focus
          have qz:w6.heap[wr.heap.size]?=some (.cells #[.int .i64 0,.slice none 0 0,.int .i64 0,.slice none 0 0] 30 (0,0)):=zm hb6 (World.alloc_heap_new wr (.cells #[.int .i64 0,.slice none 0 0,.int .i64 0,.slice none 0 0] 30))
          have r0:w6.cell? ⟨wr.heap.size,0,none⟩=some (.int .i64 0):=zc qz 0
          have rf0:=zo qz 0
          have r1:w6.cell? ⟨wr.heap.size,1,none⟩=some (.slice none 0 0):=zc qz 1
          have rf1:=zo qz 1
          have r2:w6.cell? ⟨wr.heap.size,2,none⟩=some (.int .i64 0):=zc qz 2
          have rf2:=zo qz 2
          have r3:w6.cell? ⟨wr.heap.size,3,none⟩=some (.slice none 0 0):=zc qz 3
          have rf3:=zo qz 3
          have rl:=zy qz
          have q9:=zC (i:=3) (zC (i:=2) (zC (i:=1) (zC (i:=0) qz (.int .i64 cells)) (.slice a n c)) (.int .i64 sum)) (.slice (some ⟨gb,0,none⟩) n' cg)
          have hgw:gb≠wr.heap.size:=by simp at hge6;omega
          have hi9:=(((hi6.other (i:=0) hgw (.int .i64 cells)).other (i:=1) hgw (.slice a n c)).other (i:=2) hgw (.int .i64 sum)).other (i:=3) hgw (.slice (some ⟨gb,0,none⟩) n' cg)
          have hbx:Below wr.heap.size wr w6:=zb (zd (zg (Below.refl _ _) _)) hb6
          have hb9:=(((hbx.setCell (p:=⟨wr.heap.size,0,none⟩) (Nat.le_refl _) (.int .i64 cells)).setCell (p:=⟨wr.heap.size,1,none⟩) (Nat.le_refl _) (.slice a n c)).setCell (p:=⟨wr.heap.size,2,none⟩) (Nat.le_refl _) (.int .i64 sum)).setCell (p:=⟨wr.heap.size,3,none⟩) (Nat.le_refl _) (.slice (some ⟨gb,0,none⟩) n' cg)
          clear qz hi6 hgw hbx hge6
          go_wp2_with fail
          refine NoPanic.normal ?_
          clear r0 r1 r2 r3 rf0 rf1 rf2 rf3 rl hb6
          generalize ((((w6.setCell ⟨wr.heap.size,0,none⟩ (.int .i64 cells)).setCell ⟨wr.heap.size,1,none⟩ (.slice a n c)).setCell ⟨wr.heap.size,2,none⟩ (.int .i64 sum)).setCell ⟨wr.heap.size,3,none⟩ (.slice (some ⟨gb,0,none⟩) n' cg))=W9 at q9 hi9 hb9 ⊢
          replace q9:W9.heap[wr.heap.size]?=some (.cells #[.int .i64 cells,.slice a n c,.int .i64 sum,.slice (some ⟨gb,0,none⟩) n' cg] 30 (0,0)):=q9
          obtain ⟨b9,hb9e⟩:∃b,b=wr.heap.size:=⟨_,rfl⟩
          have hb9w:wr.heap.size≤b9:=by omega
          rw[← hb9e] at q9
          rw[← hb9e]
          clear hb9e
         rotate_left
         all_goals
          have HQ9:=za (zm hb9 HQr.out)
          have HN9:=za (zm hb9 HNr.out)
          have H9:=za q9
          have hk9:=((zF hb9).1 bk (ok+j) hbk).trans hck
          have hbk9:=Nat.lt_of_lt_of_le hbk hb9.size
          clear z0 z1 z2 z3 zl q0 q1 q3 ql hck
          have y0:W9.cell? ⟨w.heap.size+1,0,none⟩=some (.string d.kind):=zc HN9.out 0
          have yl:=zy HN9.out
          have c0:W9.cell? ⟨b9,0,none⟩=some (.int .i64 cells):=zc q9 0
          have c1:W9.cell? ⟨b9,1,none⟩=some (.slice a n c):=zc q9 1
          have c2:W9.cell? ⟨b9,2,none⟩=some (.int .i64 sum):=zc q9 2
          have c3:W9.cell? ⟨b9,3,none⟩=some (.slice (some ⟨gb,0,none⟩) n' cg):=zc q9 3
          have cl:=zy q9
          have hb0W:=zb HBW.out (zb hbW hb9)
          have hbE:=zb hbW hb9
          have hb5E:=zb hbr hb9
          clear q9 HWI
          go_wp2_with fail
          refine (HIH.out (g.set cc x) ij (some ⟨gb,0,none⟩) cg W9 (HG.out.put (by have:=hgl.out;omega) HC4.out) hij2 (by omega) hi9 hb0W).mono ?_
          rintro _ w11 ⟨i11,hi11,rfl,hR11,hb11⟩
          clear c0 c1 c2 c3 cl y0 yl
          cases hre:jr ls sum f (g.set cc x) (T.drop ij) with
          | none =>
           have HCO2:Hid (jP (jr ls sum f) g ((zR g d).drop j) (T.drop ij)=none):=by unfold Hid;rw[HCO.out,hre]
           have HN:=za (hRE.out.trans (hkr.out.trans HCO2.out))
           clear hre
           dsimp only[Option.isSome]
           go_wp2_with fail
           go_ret2
           exact ⟨i11,hi11,by rw[HN.out];rfl,fun R h=>(by rw[HN.out] at h;cases h),zb hbE hb11⟩
          | some R =>
           have hRd:=hR11 R hre
           have HCO2:Hid (jP (jr ls sum f) g ((zR g d).drop j) (T.drop ij)=jP (jr ls sum f) g ((zR g d).drop (j+1)) (T.drop i11)):=by unfold Hid;rw[HCO.out,hre];simp only;rw[hRd]
           have hi9:ij≤i11:=by
            have hlen:=refT_lt ls sum f _ _ _ hre
            rw[hRd,List.length_drop,List.length_drop] at hlen
            have htn:=htl.out
            omega
           have HKR:=za (hkr.out.trans HCO2.out)
           clear hre hRd hR11
           dsimp only[Option.isSome]
           go_wp2_with fail
           go_roundw
           case rel=>exact ⟨j+1,i11,by omega,by go_num,rfl,by omega,hi11,HKR.out,zb hb5E hb11⟩
           case measure=>simp[intOf];omega
        ·have e:j=(zh g).length:=by omega
         subst e
         have hk2:=hkr.out
         rw[show (zR g d).drop (zh g).length=[] from List.drop_eq_nil_of_le (by rw[HKN.out,List.length_map];exact Nat.le_refl _)] at hk2
         have HK2:=za (hRE.out.trans hk2)
         clear hk2
         go_wp2_with fail
         go_ret2
         exact ⟨ij,hij2,by rw[HK2.out];rfl,fun R h=>(by rw[HK2.out] at h;exact (Option.some.inj h).symm),hbW⟩
      ·have m9:(d.kids != ((zh g).length:Int))=true:=by simpa using l6
       have LV:Hid (okN g d=false):=by unfold Hid;rw[HOK.out,show ((((zh g).length:Nat):Int)==d.kids)=false from by rw[beq_eq_false_iff_ne];exact fun h=>l6 h.symm];simp
       rw[LV.out,if_neg (by decide)] at hRE
       go_wp2_with fail
       go_ret2
       exact ⟨i+1,hlt,by rw[hRE.out];rfl,fun R h=>(by rw[hRE.out] at h;cases h),hbU⟩
     ·have m8:(g[ci]?.getD 0==0)=false:=by simpa using l5
      have m8b:(g[ci]?.getD 0 != 0)=true:=by simpa using l5
      have LV:Hid (okN g d=false):=by unfold Hid;rw[HOK.out,hci,Int.toNat_natCast,m8];simp
      rw[LV.out,if_neg (by decide)] at hRE
      go_wp2_with fail
      go_ret2
      exact ⟨i+1,hlt,by rw[hRE.out];rfl,fun R h=>(by rw[hRE.out] at h;cases h),hbU⟩
    ·have m4:(n':Int)≤d.cell:=by omega
     have LV:Hid (okN g d=false):=by unfold Hid;rw[HOK.out,hgl.out,decide_eq_false l4];simp
     rw[LV.out,if_neg (by decide)] at hRE
     go_wp2_with fail
     go_ret2
     exact ⟨i+1,hlt,by rw[hRE.out];rfl,fun R h=>(by rw[hRE.out] at h;cases h),hbU⟩
   ·have m3:d.cell<0:=by omega
    have LV:Hid (okN g d=false):=by unfold Hid;rw[HOK.out,decide_eq_false l3];simp
    rw[LV.out,if_neg (by decide)] at hRE
    go_wp2_with fail
    go_ret2
    exact ⟨i+1,hlt,by rw[hRE.out];rfl,fun R h=>(by rw[hRE.out] at h;cases h),hbU⟩
  ·have m2:(d.line==0)=false:=by simpa using l2
   have LV:Hid (okN g d=false):=by unfold Hid;rw[HOK.out,m2];simp
   rw[LV.out,if_neg (by decide)] at hRE
   go_wp2_with fail
   go_ret2
   exact ⟨i+1,hlt,by rw[hRE.out];rfl,fun R h=>(by rw[hRE.out] at h;cases h),hbU⟩
 ·have m1:(d.number==0)=false:=by simpa using l1
  have LV:Hid (okN g d=false):=by unfold Hid;rw[HOK.out,m1];simp
  rw[LV.out,if_neg (by decide)] at hRE
  go_wp2_with fail
  go_ret2
  exact ⟨i+1,hlt,by rw[hRE.out];rfl,fun R h=>(by rw[hRE.out] at h;cases h),hbU⟩
theorem refutes_num {cells:Int} {ls:List (List Int)} {sum:Int} (w0:World) (a:Option Addr) (n c n':Nat) (hrc:RC w0 a n ls) (hn2:n'≤256) (at':Option Addr) (nt ct:Nat) (T:List Nd) (htc:TC w0 at' nt T) (f:Nat) (g:List Int) (i:Nat) (a':Option Addr) (c':Nat) (w:World) (ih:RefIH cells ls sum w0 a n c n' at' nt ct T f) (hG:GoodTask cells ls sum g) (hlt:i<nt) (hfu:nt - i<f+1) (hic:IC w a' n' g) (hbw:Below w0.heap.size w0 w) (d:Nd) (hd:T[i]?=some d) (hkind:qm d.kind=true) (hK:isK d.kind kLine=false) (hC:isK d.kind kCell=false) :
  Calls Tryz.prog 79 #[.agg #[.int .i64 cells,.slice a n c,.int .i64 sum,.slice a' n' c'],.slice at' nt ct,.int .i64 i] w fun e w'=>∃i':Nat,i'≤nt∧e = .returned (.tuple #[.int .i64 i',.bool (jr ls sum (f+1) g (T.drop i)).isSome])∧(∀R,jr ls sum (f+1) g (T.drop i)=some R→R=T.drop i')∧Below w.heap.size w w':=by
 have hns:=htc.1.2
 have htl:=za htc.1.1
 have HIH:=za ih
 have HG:=za hG
 have HIC:=za hic
 have HTC:=za (htc.mono hbw)
 have HRC:=za (hrc.mono hbw)
 have HBW:=za hbw
 have hgl:=za hic.len
 have hll:=za hrc.len
 clear ih hG hic hbw
 have HDR:Hid (T.drop i=d :: T.drop (i+1)):=by
  unfold Hid
  have hl:i<T.length:=by rw[htl.out];exact hlt
  rw[List.drop_eq_getElem_cons hl]
  rw[List.getElem?_eq_getElem hl] at hd
  rw[Option.some.inj hd]
 obtain ⟨bt,off,rfl,hbt,t0,t1,t2,t3,t4⟩:=HTC.out.2 i d hd
 have hil:(i:Int)<(nt:Int):=by omega
 have hnge:¬(nt:Int)≤(i:Int):=by omega
 clear hd
 go_enter Tryz.func79,Tryz.ntmps79
 go_upto_region 5 with fail
 have fsz:((w.alloc (.cells #[.int .i64 cells,.slice a n c,.int .i64 sum,.slice a' n' c'] 30)).alloc (.cells #[.string d.kind,.int .i64 d.cell,.int .i64 d.line,.int .i64 d.number,.int .i64 d.kids] 104)).heap.size=w.heap.size+2:=by simp only[World.size_alloc] <;> omega
 have fB:Below w.heap.size w ((w.alloc (.cells #[.int .i64 cells,.slice a n c,.int .i64 sum,.slice a' n' c'] 30)).alloc (.cells #[.string d.kind,.int .i64 d.cell,.int .i64 d.line,.int .i64 d.number,.int .i64 d.kids] 104)):=((Below.refl _ _).alloc (Nat.le_refl _) _).alloc (by simp only[World.size_alloc];omega) _
 have fq0:((w.alloc (.cells #[.int .i64 cells,.slice a n c,.int .i64 sum,.slice a' n' c'] 30)).alloc (.cells #[.string d.kind,.int .i64 d.cell,.int .i64 d.line,.int .i64 d.number,.int .i64 d.kids] 104)).heap[w.heap.size]?=some (.cells #[.int .i64 cells,.slice a n c,.int .i64 sum,.slice a' n' c'] 30 (0,0)):=by have h:=World.alloc_heap_new w (.cells #[.int .i64 cells,.slice a n c,.int .i64 sum,.slice a' n' c'] 30);exact (Below.heap_alloc _ _ _ (by simp only[World.size_alloc];omega)).trans (h)
 have fq1:((w.alloc (.cells #[.int .i64 cells,.slice a n c,.int .i64 sum,.slice a' n' c'] 30)).alloc (.cells #[.string d.kind,.int .i64 d.cell,.int .i64 d.line,.int .i64 d.number,.int .i64 d.kids] 104)).heap[w.heap.size+1]?=some (.cells #[.string d.kind,.int .i64 d.cell,.int .i64 d.line,.int .i64 d.number,.int .i64 d.kids] 104 (0,0)):=by have h:=World.alloc_heap_new (w.alloc (.cells #[.int .i64 cells,.slice a n c,.int .i64 sum,.slice a' n' c'] 30)) (.cells #[.string d.kind,.int .i64 d.cell,.int .i64 d.line,.int .i64 d.number,.int .i64 d.kids] 104);simp only[World.size_alloc] at h;exact h
 generalize ((w.alloc (.cells #[.int .i64 cells,.slice a n c,.int .i64 sum,.slice a' n' c'] 30)).alloc (.cells #[.string d.kind,.int .i64 d.cell,.int .i64 d.line,.int .i64 d.number,.int .i64 d.kids] 104))=W3 at fsz fB fq0 fq1 ⊢
 have HQ3:=za fq0
 have HN3:=za fq1
 have x0:W3.cell? ⟨w.heap.size,0,none⟩=some (.int .i64 cells):=zc fq0 0
 have x1:W3.cell? ⟨w.heap.size,1,none⟩=some (.slice a n c):=zc fq0 1
 have x2:W3.cell? ⟨w.heap.size,2,none⟩=some (.int .i64 sum):=zc fq0 2
 have x3:W3.cell? ⟨w.heap.size,3,none⟩=some (.slice a' n' c'):=zc fq0 3
 have xl:=zy fq0
 have y0:W3.cell? ⟨w.heap.size+1,0,none⟩=some (.string d.kind):=zc fq1 0
 have y1:W3.cell? ⟨w.heap.size+1,1,none⟩=some (.int .i64 d.cell):=zc fq1 1
 have y2:W3.cell? ⟨w.heap.size+1,2,none⟩=some (.int .i64 d.line):=zc fq1 2
 have y3:W3.cell? ⟨w.heap.size+1,3,none⟩=some (.int .i64 d.number):=zc fq1 3
 have y4:W3.cell? ⟨w.heap.size+1,4,none⟩=some (.int .i64 d.kids):=zc fq1 4
 have yl:=zy fq1
 clear fq0 fq1 fsz t0 t1 t2 t3 t4
 have hKL:(d.kind.toList==[108,105,110,101])=false:=by rw[← kLine_l];exact hK
 have hRE:Hid (jr ls sum (f+1) g (T.drop i)=if okN g d=true then jP (jr ls sum f) g (zR g d) (T.drop (i+1)) else none):=by
  unfold Hid;rw[HDR.out];simp only[jr];rw[if_neg (by rw[hK];decide)]
 have HUN:=za (runused_c (.slice a n c) cells sum a' n' c' g W3 (HIC.out.mono fB))
 have HUL:Hid ((zh g).length≤256):=by unfold Hid;have:=jd g g.length;have:=HG.out.glen;unfold zh;omega
 have HOL:Hid ((zj g).length≤256):=by unfold Hid;have:=jA g g.length;have:=HG.out.glen;unfold zj;omega
 have hnum:isK d.kind kNumber=true:=by
  unfold qm at hkind
  rw[hK,hC] at hkind
  simpa using hkind
 have hfc:=fine_number (g:=g) hC hnum
 have HKN:=za hfc.2
 have HFN:=za hfc.1
 have f2:(d.kind.toList==[99,101,108,108])=false:=by rw[← kCell_l];exact hC
 have f3:(d.kind.toList==[110,117,109,98,101,114])=true:=by rw[← kNumber_l];exact hnum
 have HOK:Hid (okN g d=((d.line==0&&d.cell==0&&decide (1≤d.number)&&decide (d.number≤g.length)&&!zY g d.number)&&(((zj g).length:Int)==d.kids))):=by
  unfold Hid okN;rw[hfc.1,hfc.2,List.length_map]
 have HUX:Hid (zY (zh g) d.number=(decide (1≤d.number)&&decide (d.number≤g.length)&&!zY g d.number)):=by
  unfold Hid
  rw[Bool.eq_iff_iff,js,zT]
  simp only[Bool.and_eq_true,decide_eq_true_eq,Bool.not_eq_true',and_assoc]
 have HOP:=za (fun w1 (hb:Below w.heap.size w w1)=>ropen_c (.slice a n c) cells sum a' n' c' g w1 (HIC.out.mono hb))
 clear hfc hC hK hkind hnum
 go_wp2_with fail
 refine HUN.out.mono ?_
 rintro _ w5 ⟨vu,rfl,hownu,hb5⟩
 obtain ⟨au,cu,rfl⟩:=zr hownu
 have HU:=za (IC.of_owns hownu (by have:=HUL.out;omega)).1
 have HQ5:=za (zm hb5 HQ3.out)
 have HN5:=za (zm hb5 HN3.out)
 have hbU:=zb fB hb5
 clear x0 x1 x2 x3 xl y0 y1 y2 y3 y4 yl hownu HUN
 have y0:w5.cell? ⟨w.heap.size+1,0,none⟩=some (.string d.kind):=zc HN5.out 0
 have y1:w5.cell? ⟨w.heap.size+1,1,none⟩=some (.int .i64 d.cell):=zc HN5.out 1
 have y2:w5.cell? ⟨w.heap.size+1,2,none⟩=some (.int .i64 d.line):=zc HN5.out 2
 have y3:w5.cell? ⟨w.heap.size+1,3,none⟩=some (.int .i64 d.number):=zc HN5.out 3
 have y4:w5.cell? ⟨w.heap.size+1,4,none⟩=some (.int .i64 d.kids):=zc HN5.out 4
 have yl:=zy HN5.out
 by_cases l1:d.cell=0
 ·have m1:(d.cell==0)=true:=by simpa using l1
  by_cases l2:d.line=0
  ·have m2:(d.line==0)=true:=by simpa using l2
   have HHX:=za (fun w1 (hb:Below w5.heap.size w5 w1)=>has_c au (zh g).length cu (zh g) d.number w1 (HU.out.mono hb))
   cases hu:zY (zh g) d.number with
   | true =>
    rw[hu] at HHX
    have hu2:=HUX.out
    rw[hu] at hu2
    have HU2:=za hu2
    clear hu hu2
    have x0:w5.cell? ⟨w.heap.size,0,none⟩=some (.int .i64 cells):=zc HQ5.out 0
    have x1:w5.cell? ⟨w.heap.size,1,none⟩=some (.slice a n c):=zc HQ5.out 1
    have x2:w5.cell? ⟨w.heap.size,2,none⟩=some (.int .i64 sum):=zc HQ5.out 2
    have x3:w5.cell? ⟨w.heap.size,3,none⟩=some (.slice a' n' c'):=zc HQ5.out 3
    have xl:=zy HQ5.out
    go_wp2_with (go_at_call 62;refine (HHX.out _ (Below.refl _ _)).mono ?_;rintro _ w6 ⟨rfl,rfl⟩)
    refine (HOP.out _ hbU).mono ?_
    rintro _ w8 ⟨vo,rfl,howno,hb8⟩
    obtain ⟨ao,co,rfl⟩:=zr howno
    have HU:=za (IC.of_owns howno (by have:=HOL.out;omega)).1
    have HQ5:=za (zm hb8 HQ5.out)
    have HN5:=za (zm hb8 HN5.out)
    have hbU:=zb hbU hb8
    clear x0 x1 x2 x3 xl y0 y1 y2 y3 y4 yl howno HOP HHX
    have y4:w8.cell? ⟨w.heap.size+1,4,none⟩=some (.int .i64 d.kids):=zc HN5.out 4
    have yl:=zy HN5.out
    by_cases l6:d.kids=((zj g).length:Int)
    ·have LV:Hid (okN g d=true):=by unfold Hid;rw[HOK.out,Bool.and_assoc (d.line==0&&d.cell==0),Bool.and_assoc (d.line==0&&d.cell==0),← HU2.out,m1,m2,l6];simp
     have HD0:=za l1
     rw[l6] at y4
     clear m1 m2 l1 l2
     rw[LV.out,if_pos rfl] at hRE
     have HKO:=za (kids_ok LV.out)
     clear LV
     have hW3w:=zy HQ5.out
     go_wp2_with fail
     go_loopw [2,12,13,14,15] (fun atv iv _ _ _ wv=>∃(j ij:Nat),j≤(zj g).length∧iv = .int .i64 j∧atv = .int .i64 ij∧i+1≤ij∧ij≤nt∧Hid (jP (jr ls sum f) g (zR g d) (T.drop (i+1))=jP (jr ls sum f) g ((zR g d).drop j) (T.drop ij))∧Below w8.heap.size w8 wv) (fun _ iv _ _ _ _=>(zj g).length - (intOf iv).toNat)
     case atStart=>exact ⟨0,i+1,by omega,rfl,rfl,Nat.le_refl _,hlt,rfl,Below.refl _ _⟩
     case round =>
      obtain ⟨j,ij,hj,rfl,rfl,hij1,hij2,hkr,hbr⟩:=hrel
      have hbW:=zb hbU hbr
      by_cases hlt2:j<(zj g).length
      ·obtain ⟨bk,ok,rfl,hbk,hck⟩:=(HU.out.mono hbr).2 j hlt2
       have hKN:(zR g d).length=(zj g).length:=by rw[HKN.out,List.length_map]
       have hkj:(zR g d)[j]?.getD (0,0)=((zj g)[j]?.getD 0,d.number):=by
        rw[HKN.out,List.getElem?_map,List.getElem?_eq_getElem hlt2];rfl
       have hkm:(zR g d)[j]?.getD (0,0)∈zR g d:=by rw[List.getElem?_eq_getElem (by omega)];exact List.getElem_mem (by omega)
       rw[hkj] at hkm
       obtain ⟨cc,hc1,hc2,hc3,hc4⟩:=HKO.out _ hkm
       simp only at hc1 hc4
       obtain ⟨x,hx⟩:∃x,d.number=x:=⟨_,rfl⟩
       have HX:=za hx
       rw[hc1] at hck
       rw[hx] at hc4
       have HCO:Hid (jP (jr ls sum f) g ((zR g d).drop j) (T.drop ij)=match jr ls sum f (g.set cc x) (T.drop ij) with
         | none=>none
         | some T'=>jP (jr ls sum f) g ((zR g d).drop (j+1)) T'):=by
        unfold Hid
        rw[List.drop_eq_getElem_cons (by omega:j<(zR g d).length)]
        rw[List.getElem?_eq_getElem (by omega),Option.getD_some] at hkj
        simp only[jP]
        rw[hkj]
        simp only[hc1,hx,Int.toNat_natCast]
        rfl
       have HC4:=za hc4
       have hcn:cc<n':=by have:=hgl.out;omega
       have hji:(j:Int)<((zj g).length:Int):=by omega
       have hKb:=HOL.out
       have hQr:=zm hbr HQ5.out
       have hNr:=zm hbr HN5.out
       have HQr:=za hQr
       have HNr:=za hNr
       have z0:wr.cell? ⟨w.heap.size,0,none⟩=some (.int .i64 cells):=zc hQr 0
       have z1:wr.cell? ⟨w.heap.size,1,none⟩=some (.slice a n c):=zc hQr 1
       have z2:wr.cell? ⟨w.heap.size,2,none⟩=some (.int .i64 sum):=zc hQr 2
       have z3:wr.cell? ⟨w.heap.size,3,none⟩=some (.slice a' n' c'):=zc hQr 3
       have zl:=zy hQr
       have q0:wr.cell? ⟨w.heap.size+1,0,none⟩=some (.string d.kind):=zc hNr 0
       have q1:wr.cell? ⟨w.heap.size+1,1,none⟩=some (.int .i64 d.cell):=zc hNr 1
       have q3:wr.cell? ⟨w.heap.size+1,3,none⟩=some (.int .i64 d.number):=zc hNr 3
       have ql:=zy hNr
       rw[HD0.out] at q1
       rw[hx] at q3
       have HWI:=za (fun (W:World) (hb:Below wr.heap.size wr W)=>with6_c a n c cells sum a' n' c' g 0 (cc:Int) W (HIC.out.mono (zb hbW hb)) (by omega) hn2)
       have HWJ:=za (fun (W:World) (hb:Below wr.heap.size wr W)=>with6_c a n c cells sum a' n' c' g cc x W (HIC.out.mono (zb hbW hb)) hcn hn2)
       clear hQr hNr hkm hkj hc1 hc3 hc4 hx hKN
       go_upto_region 22 with fail
       refine wp_region_fork (fun w'=>∃u,w'=over (wr) u) [9] [0,1,2,3,4,5,6] 7 8 [(2,9)] (by kernel_rfl) (by kernel_rfl) (by exact ⟨_,zi (by repeat (first|assumption|exact Below.refl _ _|refine zd ?_|refine zg ?_ _|refine zb ?_ (by assumption)))⟩) ?_ ?_
       all_goals dsimp only[List.map,List.cons_append,List.nil_append,zt,zG]
       all_goals repeat (first|(refine zu rfl (fun K hK=>?_);go_big_quiet_op;refine hK _ ?_;clear hK K)|(refine zp rfl rfl (fun K hK=>?_);go_big_quiet_op;refine hK _ ?_;clear hK K)|(refine zE ?_;go_wp2_with (go_at_call 27;(first|refine (HWI.out _ (zd (Below.refl _ _))).mono ?_|refine (HWI.out _ (zd (zg (Below.refl _ _) _))).mono ?_|refine (HWI.out _ (zg (zd (Below.refl _ _)) _)).mono ?_);rintro _ w6 ⟨gb,cg,rfl,hi6,hcg6,hge6,hb6⟩);refine ⟨?_,?_⟩;focus (exact ⟨_,zi (by repeat (first|assumption|exact Below.refl _ _|refine zd ?_|refine zg ?_ _|refine zb ?_ (by assumption)))⟩)))
       all_goals refine zA _ _ _ rfl ?_
       all_goals dsimp only[List.map]
       focus
        go_wp2_with fail
        refine NoPanic.normal ?_
        have hb9:Below wr.heap.size wr (w6.alloc (.cells #[.int .i64 cells,.slice a n c,.int .i64 sum,.slice (some ⟨gb,0,none⟩) n' cg] 30)):=zg (zb (zd (Below.refl _ _)) hb6) _
        have q9:=World.alloc_heap_new w6 (.cells #[.int .i64 cells,.slice a n c,.int .i64 sum,.slice (some ⟨gb,0,none⟩) n' cg] 30)
        have hi9:IC (w6.alloc (.cells #[.int .i64 cells,.slice a n c,.int .i64 sum,.slice (some ⟨gb,0,none⟩) n' cg] 30)) (some ⟨gb,0,none⟩) n' (g.set 0 (cc:Int)):=hi6.mono ((Below.refl _ _).alloc (Nat.le_refl _) _)
        clear hi6 hge6
        generalize (w6.alloc (.cells #[.int .i64 cells,.slice a n c,.int .i64 sum,.slice (some ⟨gb,0,none⟩) n' cg] 30))=W9 at hb9 q9 hi9 ⊢
        have hb9w:wr.heap.size≤w6.heap.size:=by have:=hb6.size;simpa using this
        clear hb6
        generalize w6.heap.size=b9 at q9 hb9w ⊢
       rotate_left
       focus
        have qz:w6.heap[wr.heap.size]?=some (.cells #[.int .i64 0,.slice none 0 0,.int .i64 0,.slice none 0 0] 30 (0,0)):=zm hb6 (World.alloc_heap_new wr (.cells #[.int .i64 0,.slice none 0 0,.int .i64 0,.slice none 0 0] 30))
        have r0:w6.cell? ⟨wr.heap.size,0,none⟩=some (.int .i64 0):=zc qz 0
        have rf0:=zo qz 0
        have r1:w6.cell? ⟨wr.heap.size,1,none⟩=some (.slice none 0 0):=zc qz 1
        have rf1:=zo qz 1
        have r2:w6.cell? ⟨wr.heap.size,2,none⟩=some (.int .i64 0):=zc qz 2
        have rf2:=zo qz 2
        have r3:w6.cell? ⟨wr.heap.size,3,none⟩=some (.slice none 0 0):=zc qz 3
        have rf3:=zo qz 3
        have rl:=zy qz
        have q9:=zC (i:=3) (zC (i:=2) (zC (i:=1) (zC (i:=0) qz (.int .i64 cells)) (.slice a n c)) (.int .i64 sum)) (.slice (some ⟨gb,0,none⟩) n' cg)
        have hgw:gb≠wr.heap.size:=by simp at hge6;omega
        have hi9:=(((hi6.other (i:=0) hgw (.int .i64 cells)).other (i:=1) hgw (.slice a n c)).other (i:=2) hgw (.int .i64 sum)).other (i:=3) hgw (.slice (some ⟨gb,0,none⟩) n' cg)
        have hbx:Below wr.heap.size wr w6:=zb (zd (zg (Below.refl _ _) _)) hb6
        have hb9:=(((hbx.setCell (p:=⟨wr.heap.size,0,none⟩) (Nat.le_refl _) (.int .i64 cells)).setCell (p:=⟨wr.heap.size,1,none⟩) (Nat.le_refl _) (.slice a n c)).setCell (p:=⟨wr.heap.size,2,none⟩) (Nat.le_refl _) (.int .i64 sum)).setCell (p:=⟨wr.heap.size,3,none⟩) (Nat.le_refl _) (.slice (some ⟨gb,0,none⟩) n' cg)
        clear qz hi6 hgw hbx hge6
        go_wp2_with fail
        refine NoPanic.normal ?_
        clear r0 r1 r2 r3 rf0 rf1 rf2 rf3 rl hb6
        generalize ((((w6.setCell ⟨wr.heap.size,0,none⟩ (.int .i64 cells)).setCell ⟨wr.heap.size,1,none⟩ (.slice a n c)).setCell ⟨wr.heap.size,2,none⟩ (.int .i64 sum)).setCell ⟨wr.heap.size,3,none⟩ (.slice (some ⟨gb,0,none⟩) n' cg))=W9 at q9 hi9 hb9 ⊢
        replace q9:W9.heap[wr.heap.size]?=some (.cells #[.int .i64 cells,.slice a n c,.int .i64 sum,.slice (some ⟨gb,0,none⟩) n' cg] 30 (0,0)):=q9
        obtain ⟨b9,hb9e⟩:∃b,b=wr.heap.size:=⟨_,rfl⟩
        have hb9w:wr.heap.size≤b9:=by omega
        rw[← hb9e] at q9
        rw[← hb9e]
        clear hb9e
       rotate_left
       all_goals
        have HQ9:=za (zm hb9 HQr.out)
        have HN9:=za (zm hb9 HNr.out)
        have H9:=za q9
        have hk9:=((zF hb9).1 bk (ok+j) hbk).trans hck
        have hbk9:=Nat.lt_of_lt_of_le hbk hb9.size
        clear z0 z1 z2 z3 zl q0 q1 q3 ql hck
        have y0:W9.cell? ⟨w.heap.size+1,0,none⟩=some (.string d.kind):=zc HN9.out 0
        have yl:=zy HN9.out
        have y3:W9.cell? ⟨w.heap.size+1,3,none⟩=some (.int .i64 x):=(zc HN9.out 3).trans (by rw[← HX.out];rfl)
        have z0:W9.cell? ⟨w.heap.size,0,none⟩=some (.int .i64 cells):=zc HQ9.out 0
        have z1:W9.cell? ⟨w.heap.size,1,none⟩=some (.slice a n c):=zc HQ9.out 1
        have z2:W9.cell? ⟨w.heap.size,2,none⟩=some (.int .i64 sum):=zc HQ9.out 2
        have z3:W9.cell? ⟨w.heap.size,3,none⟩=some (.slice a' n' c'):=zc HQ9.out 3
        have zl:=zy HQ9.out
        have hlb:=zy q9
        have HB9:=za hb9
        have hw9:=hb9.size
        clear q9 hi9 hb9
        go_upto_region 24 with fail
        refine zk (fun w'=>∃u,w'=over (W9) u) [8,7] [(0,0),(0,1),(0,2),(0,3),(0,4),(0,5),(0,6),(2,7),(2,8)] (by kernel_rfl) (by kernel_rfl) (by exact ⟨_,zi (by repeat (first|assumption|exact Below.refl _ _|refine zd ?_|refine zg ?_ _|refine zb ?_ (by assumption)))⟩) ?_
        dsimp only[zt,zG]
        repeat (first|(refine zu rfl (fun K hK=>?_);go_big_quiet_op;refine hK _ ?_;clear hK K)|(refine zp rfl rfl (fun K hK=>?_);go_big_quiet_op;refine hK _ ?_;clear hK K))
        refine zA _ _ _ rfl ?_
        dsimp only[List.map]
        go_wp2_with (go_at_call 27;refine (HWJ.out _ (zd HB9.out)).mono ?_;rintro _ w7 ⟨gb2,cg2,rfl,hi7,hcg7,hge7,hb7⟩;have q7:=zm hb7 H9.out;have r0:=zc q7 0;have r1:=zc q7 1;have r2:=zc q7 2;have r3:=zc q7 3;have rf0:=zo q7 0;have rf1:=zo q7 1;have rf2:=zo q7 2;have rf3:=zo q7 3;have rl:=zy q7)
        refine NoPanic.normal ?_
        have hgw:gb2≠b9:=by simp at hge7;omega
        have hi10:=(((hi7.other (i:=0) hgw (.int .i64 cells)).other (i:=1) hgw (.slice a n c)).other (i:=2) hgw (.int .i64 sum)).other (i:=3) hgw (.slice (some ⟨gb2,0,none⟩) n' cg2)
        have q10:=zC (i:=3) (zC (i:=2) (zC (i:=1) (zC (i:=0) q7 (.int .i64 cells)) (.slice a n c)) (.int .i64 sum)) (.slice (some ⟨gb2,0,none⟩) n' cg2)
        have hb7r:Below wr.heap.size wr w7:=zb (zd HB9.out) hb7
        have hb10:=(((hb7r.setCell (p:=⟨b9,0,none⟩) hb9w (.int .i64 cells)).setCell (p:=⟨b9,1,none⟩) hb9w (.slice a n c)).setCell (p:=⟨b9,2,none⟩) hb9w (.int .i64 sum)).setCell (p:=⟨b9,3,none⟩) hb9w (.slice (some ⟨gb2,0,none⟩) n' cg2)
        clear hi7 hb7 hb7r r0 r1 r2 r3 rf0 rf1 rf2 rf3 rl q7 hge7 hgw y0 y3 yl z0 z1 z2 z3 zl hlb hw9 hk9 hbk9 HQ9 HN9 H9 HB9
        generalize ((((w7.setCell ⟨b9,0,none⟩ (.int .i64 cells)).setCell ⟨b9,1,none⟩ (.slice a n c)).setCell ⟨b9,2,none⟩ (.int .i64 sum)).setCell ⟨b9,3,none⟩ (.slice (some ⟨gb2,0,none⟩) n' cg2))=W10 at q10 hi10 hb10 ⊢
        replace q10:W10.heap[b9]?=some (.cells #[.int .i64 cells,.slice a n c,.int .i64 sum,.slice (some ⟨gb2,0,none⟩) n' cg2] 30 (0,0)):=q10
        have HN10:=za (zm hb10 HNr.out)
        have c0:W10.cell? ⟨b9,0,none⟩=some (.int .i64 cells):=zc q10 0
        have c1:W10.cell? ⟨b9,1,none⟩=some (.slice a n c):=zc q10 1
        have c2:W10.cell? ⟨b9,2,none⟩=some (.int .i64 sum):=zc q10 2
        have c3:W10.cell? ⟨b9,3,none⟩=some (.slice (some ⟨gb2,0,none⟩) n' cg2):=zc q10 3
        have cl:=zy q10
        have y0:W10.cell? ⟨w.heap.size+1,0,none⟩=some (.string d.kind):=zc HN10.out 0
        have yl:=zy HN10.out
        have hb0W:=zb HBW.out (zb hbW hb10)
        have hbE:=zb hbW hb10
        have hb5E:=zb hbr hb10
        clear q10 HWI HWJ
        go_wp2_with fail
        refine (HIH.out (g.set cc x) ij (some ⟨gb2,0,none⟩) cg2 W10 (HG.out.put (by have:=hgl.out;omega) HC4.out) hij2 (by omega) hi10 hb0W).mono ?_
        rintro _ w11 ⟨i11,hi11,rfl,hR11,hb11⟩
        clear c0 c1 c2 c3 cl y0 yl
        cases hre:jr ls sum f (g.set cc x) (T.drop ij) with
        | none =>
         have HCO2:Hid (jP (jr ls sum f) g ((zR g d).drop j) (T.drop ij)=none):=by unfold Hid;rw[HCO.out,hre]
         have HN:=za (hRE.out.trans (hkr.out.trans HCO2.out))
         clear hre
         dsimp only[Option.isSome]
         go_wp2_with fail
         go_ret2
         exact ⟨i11,hi11,by rw[HN.out];rfl,fun R h=>(by rw[HN.out] at h;cases h),zb hbE hb11⟩
        | some R =>
         have hRd:=hR11 R hre
         have HCO2:Hid (jP (jr ls sum f) g ((zR g d).drop j) (T.drop ij)=jP (jr ls sum f) g ((zR g d).drop (j+1)) (T.drop i11)):=by unfold Hid;rw[HCO.out,hre];simp only;rw[hRd]
         have hi9:ij≤i11:=by
          have hlen:=refT_lt ls sum f _ _ _ hre
          rw[hRd,List.length_drop,List.length_drop] at hlen
          have htn:=htl.out
          omega
         have HKR:=za (hkr.out.trans HCO2.out)
         clear hre hRd hR11
         dsimp only[Option.isSome]
         go_wp2_with fail
         go_roundw
         case rel=>exact ⟨j+1,i11,by omega,by go_num,rfl,by omega,hi11,HKR.out,zb hb5E hb11⟩
         case measure=>simp[intOf];omega
      ·have e:j=(zj g).length:=by omega
       subst e
       have hk2:=hkr.out
       rw[show (zR g d).drop (zj g).length=[] from List.drop_eq_nil_of_le (by rw[HKN.out,List.length_map];exact Nat.le_refl _)] at hk2
       have HK2:=za (hRE.out.trans hk2)
       clear hk2
       go_wp2_with fail
       go_ret2
       exact ⟨ij,hij2,by rw[HK2.out];rfl,fun R h=>(by rw[HK2.out] at h;exact (Option.some.inj h).symm),hbW⟩
    ·have m9:(d.kids != ((zj g).length:Int))=true:=by simpa using l6
     have LV:Hid (okN g d=false):=by unfold Hid;rw[HOK.out,show ((((zj g).length:Nat):Int)==d.kids)=false from by rw[beq_eq_false_iff_ne];exact fun h=>l6 h.symm];simp
     rw[LV.out,if_neg (by decide)] at hRE
     go_wp2_with fail
     go_ret2
     exact ⟨i+1,hlt,by rw[hRE.out];rfl,fun R h=>(by rw[hRE.out] at h;cases h),hbU⟩
   | false =>
    rw[hu] at HHX
    have hu2:=HUX.out
    rw[hu] at hu2
    have HU2:=za hu2
    clear hu hu2
    have LV:Hid (okN g d=false):=by unfold Hid;rw[HOK.out,Bool.and_assoc (d.line==0&&d.cell==0),Bool.and_assoc (d.line==0&&d.cell==0),← HU2.out];simp
    rw[LV.out,if_neg (by decide)] at hRE
    go_wp2_with (go_at_call 62;refine (HHX.out _ (Below.refl _ _)).mono ?_;rintro _ w6 ⟨rfl,rfl⟩)
    go_ret2
    exact ⟨i+1,hlt,by rw[hRE.out];rfl,fun R h=>(by rw[hRE.out] at h;cases h),hbU⟩
  ·have m2:(d.line==0)=false:=by simpa using l2
   have LV:Hid (okN g d=false):=by unfold Hid;rw[HOK.out,m2];simp
   rw[LV.out,if_neg (by decide)] at hRE
   go_wp2_with fail
   go_ret2
   exact ⟨i+1,hlt,by rw[hRE.out];rfl,fun R h=>(by rw[hRE.out] at h;cases h),hbU⟩
 ·have m1:(d.cell==0)=false:=by simpa using l1
  have LV:Hid (okN g d=false):=by unfold Hid;rw[HOK.out,m1];simp
  rw[LV.out,if_neg (by decide)] at hRE
  go_wp2_with fail
  go_ret2
  exact ⟨i+1,hlt,by rw[hRE.out];rfl,fun R h=>(by rw[hRE.out] at h;cases h),hbU⟩
theorem refutes_c {cells:Int} {ls:List (List Int)} {sum:Int} (w0:World) (a:Option Addr) (n c n':Nat) (hrc:RC w0 a n ls) (hn2:n'≤256) (at':Option Addr) (nt ct:Nat) (T:List Nd) (htc:TC w0 at' nt T) (hkd:∀d,d∈T→qm d.kind=true):∀(f:Nat),RefIH cells ls sum w0 a n c n' at' nt ct T f:=by
 intro f
 induction f with
 | zero=>intro g i a' c' w _ _ h;omega
 | succ f ih =>
  intro g i a' c' w hG hi hfu hic hbw
  by_cases hend:i=nt
  ·subst hend
   exact refutes_end w0 a n c n' at' i ct T htc f g a' c' w
  ·have hlt:i<nt:=by omega
   obtain ⟨d,hd⟩:∃d,T[i]?=some d:=⟨T[i]'(by rw[htc.1.1];exact hlt),List.getElem?_eq_getElem _⟩
   have hkind:=hkd d (List.mem_of_getElem? hd)
   cases hK:isK d.kind kLine with
   | true=>exact refutes_line w0 a n c n' hrc hn2 at' nt ct T htc f g i a' c' w ih hG hlt hfu hic hbw d hd hkind hK
   | false =>
    cases hC:isK d.kind kCell with
    | true=>exact refutes_cell w0 a n c n' hrc hn2 at' nt ct T htc f g i a' c' w ih hG hlt hfu hic hbw d hd hkind hK hC
    | false=>exact refutes_num w0 a n c n' hrc hn2 at' nt ct T htc f g i a' c' w ih hG hlt hfu hic hbw d hd hkind hK hC
end
end Go.Proofs.YtaadpihbjhachaaGreat
