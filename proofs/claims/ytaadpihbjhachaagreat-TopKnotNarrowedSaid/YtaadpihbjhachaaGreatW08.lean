/- Texts D1 to D3 of this proof, in one file. -/
import Derived.Test.YtaadpihbjhachaaGreatW06
import Derived.Test.YtaadpihbjhachaaGreatW07
namespace Go.Proofs.YtaadpihbjhachaaGreat
set_option maxRecDepth 100000
set_option maxHeartbeats 16000000
section
open Go Go.RowKit
attribute [local go_sem] over_cell
def cntTo (l g:List Int) (k:Nat):Nat:=((l.take k).filter (fun c=>g[c.toNat]?.getD 0==0)).length
def loU (U:List Int) (m:Nat):Int:=((List.range m).map fun i=>U[i]?.getD 0).sum
def hiU (U:List Int) (m:Nat):Int:=((List.range m).map fun i=>U[U.length - 1 - i]?.getD 0).sum
def lowV (l g U:List Int):Int:=sumAt l g+loU U (cntTo l g l.length)
def highV (l g U:List Int):Int:=sumAt l g+hiU U (cntTo l g l.length)
end
section
open Go Go.RowKit
attribute [local go_sem] over_cell
def twoL (ls:List (List Int)) (sum:Int) (g:List Int):List (List Int):=(solsL ls sum g []).take 2
def uniqE (cells:Int) (ls:List (List Int)) (sum:Int) (g:List Int):Int :=
 if (smallErr cells ls sum g != 0)=true then smallErr cells ls sum g else if (twoL ls sum g).length=0 then 21 else if (twoL ls sum g).length=1 then 0 else 22
def uniqL (cells:Int) (ls:List (List Int)) (sum:Int) (g:List Int):List Int :=
 if (smallErr cells ls sum g != 0)=true then [] else if (twoL ls sum g).length=1 then (twoL ls sum g)[0]?.getD [] else []
theorem small_good {cells:Int} {ls:List (List Int)} {sum:Int} {g:List Int} (h:smallErr cells ls sum g=0):GoodTask cells ls sum g:=by
 refine goodTask ?_
 unfold smallErr at h
 by_cases h1:(taskErr cells ls sum g != 0)=true
 ·rw[if_pos h1] at h;exact h
 ·simpa using h1
theorem IC.nil (w:World):IC w none 0 []:=⟨⟨rfl,by omega⟩,fun k hk=>absurd hk (Nat.not_lt_zero _)⟩
theorem all_few {a:Option Addr} {n c:Nat} {ls:List (List Int)} {cells sum:Int} {a':Option Addr} {n' c':Nat} {g:List Int} {w w5:World} (G:GoodTask cells ls sum g) (h:RC w a n ls) (hcap:n≤c) (h':IC w a' n' g) (hBW:Below w.heap.size w w5) (most:Int) (hm1:1≤most) (hm3:most≤1000000) :
  Calls Tryz.prog 64 #[.agg #[.int .i64 cells,.slice a n c,.int .i64 sum,.slice a' n' c']] w5 fun e w6=>∃bx,e = .returned (solV bx)∧Below w5.heap.size w5 w6 ∧
   Calls Tryz.prog 67 #[solV bx,.int .i64 most] w6 fun e w7=>∃ar nr cr,e = .returned (.slice ar nr cr)∧RC w7 ar nr ((solsL ls sum g []).take most.toNat)∧nr≤cr∧Below w.heap.size w w7:=by
 have hl':=h'.len
 have hl:=h.len
 have hm2:n'≤256:=by have:=G.len;have:=G.cells2;omega
 have hn1:n≤1000000:=by have:=G.lines;omega
 have hOlt:∀k,k<w.heap.size→k<w5.heap.size:=fun k hk=>by have:=hBW.size;omega
 refine (all_c a n c ls cells sum a' n' c' g w5 (h.mono hBW) hcap hn1 (h'.mono hBW) hm2 (fun k hk=>by have:=G.num k (by omega);have:=G.cells2;omega) (fun l hl=>by have h1:=G.lineLen hl;have h2:=G.len;exact ⟨h1.1,fun x hx=>by have:=h1.2 x hx;omega⟩) (fun k=>k<w.heap.size) hOlt (old_lines h hBW)).mono ?_
 rintro _ w6 ⟨bx,b,Im,ao,co,al,cl,vf,rfl,hbx1,hbx2,hbx3,hbx4,hbx5,hbx6,hsr,hb3,hb4,hb5,hb6⟩
 refine ⟨bx,rfl,hb3,?_⟩
 refine (few_c b bx Im _ vf _ [] w6 hsr G.even hbx6 hbx2 (mut0 hbx3 hbx4) w.heap.size (by have:=hBW.size;have:=hb3.size;omega) (mut0_ge (by have:=hBW.size;omega) (fun k e=>by have h1:=hb5 k e;have h2:=hBW.size;omega)) most hm1 hm3).mono ?_
 rintro _ w7 ⟨ar,nr,cr,rfl,hrc,hcr,hbl⟩
 exact ⟨ar,nr,cr,rfl,hrc,hcr,(hBW.trans (hb3.mono (by have:=hBW.size;omega))).trans hbl⟩
theorem unique_c (a:Option Addr) (n c:Nat) (ls:List (List Int)) (cells sum:Int) (a':Option Addr) (n' c':Nat) (g:List Int) (w:World) (h:RC w a n ls) (hcap:n≤c) (h':IC w a' n' g) (hcap':n'≤c') :
  Calls Tryz.prog 30 #[.agg #[.int .i64 cells,.slice a n c,.int .i64 sum,.slice a' n' c']] w fun e w'=>∃ar nr cr,e = .returned (.tuple #[.slice ar nr cr,.int .i64 (uniqE cells ls sum g)])∧IC w' ar nr (uniqL cells ls sum g)∧nr≤cr∧Below w.heap.size w w':=by
 have H:=Lib.hid h
 have H':=Lib.hid h'
 have hE:Hid (uniqE cells ls sum g=if (smallErr cells ls sum g != 0)=true then smallErr cells ls sum g else if (twoL ls sum g).length=0 then 21 else if (twoL ls sum g).length=1 then 0 else 22):=rfl
 have hL:Hid (uniqL cells ls sum g=if (smallErr cells ls sum g != 0)=true then [] else if (twoL ls sum g).length=1 then (twoL ls sum g)[0]?.getD [] else []):=rfl
 go_enter Tryz.func30,Tryz.ntmps30
 go_wp2_with fail
 have hsz:w.heap.size<(w.alloc (.cells #[.int .i64 cells,.slice a n c,.int .i64 sum,.slice a' n' c'] 27)).heap.size:=by simp
 have hB:Below w.heap.size w (w.alloc (.cells #[.int .i64 cells,.slice a n c,.int .i64 sum,.slice a' n' c'] 27)):=(Below.refl _ _).alloc (Nat.le_refl _) _
 have x0:(w.alloc (.cells #[.int .i64 cells,.slice a n c,.int .i64 sum,.slice a' n' c'] 27)).cell? ⟨w.heap.size,0,none⟩=some (.int .i64 cells):=(box_cells w #[.int .i64 cells,.slice a n c,.int .i64 sum,.slice a' n' c'] 27 0).trans rfl
 have x1:(w.alloc (.cells #[.int .i64 cells,.slice a n c,.int .i64 sum,.slice a' n' c'] 27)).cell? ⟨w.heap.size,1,none⟩=some (.slice a n c):=(box_cells w #[.int .i64 cells,.slice a n c,.int .i64 sum,.slice a' n' c'] 27 1).trans rfl
 have x2:(w.alloc (.cells #[.int .i64 cells,.slice a n c,.int .i64 sum,.slice a' n' c'] 27)).cell? ⟨w.heap.size,2,none⟩=some (.int .i64 sum):=(box_cells w #[.int .i64 cells,.slice a n c,.int .i64 sum,.slice a' n' c'] 27 2).trans rfl
 have x3:(w.alloc (.cells #[.int .i64 cells,.slice a n c,.int .i64 sum,.slice a' n' c'] 27)).cell? ⟨w.heap.size,3,none⟩=some (.slice a' n' c'):=(box_cells w #[.int .i64 cells,.slice a n c,.int .i64 sum,.slice a' n' c'] 27 3).trans rfl
 generalize (w.alloc (.cells #[.int .i64 cells,.slice a n c,.int .i64 sum,.slice a' n' c'] 27))=W0 at hsz hB x0 x1 x2 x3 ⊢
 refine (small_c a n c ls cells sum a' n' c' g W0 (h.mono hB) hcap (h'.mono hB) hcap').mono ?_
 rintro _ w1 ⟨rfl,hb1⟩
 clear h h'
 have y0:=((bcell hb1).1 _ _ hsz).trans x0
 have y1:=((bcell hb1).1 _ _ hsz).trans x1
 have y2:=((bcell hb1).1 _ _ hsz).trans x2
 have y3:=((bcell hb1).1 _ _ hsz).trans x3
 clear x0 x1 x2 x3
 have hB1:=hB.trans (hb1.mono hB.size)
 by_cases he:(smallErr cells ls sum g != 0)=true
 ·rw[if_pos he] at hE hL
  have HE:=Lib.hid he
  go_wp2
  go_ret2
  exact ⟨none,0,0,by rw[hE.out];rfl,by rw[hL.out];exact IC.nil _,Nat.le_refl _,hB1⟩
 ·have he0:smallErr cells ls sum g=0:=by simpa using he
  have G:=Lib.hid (small_good he0)
  rw[if_neg he] at hE hL
  rw[he0]
  clear he he0
  have HA:=Lib.hid (all_few (c':=c') G.out H.out hcap H'.out hB1 2 (by decide) (by decide))
  go_wp2_with fail
  refine HA.out.mono ?_
  rintro _ w6 ⟨bx,rfl,hb6,hfew⟩
  have HFEW:=Lib.hid hfew
  clear hfew HA
  go_wp2_with fail
  refine HFEW.out.mono ?_
  rintro _ w7 ⟨ar,nr,cr,rfl,hrc,hcr,hbl⟩
  clear HFEW
  replace hrc:RC w7 ar nr (twoL ls sum g):=hrc
  have hln:=hrc.len
  have h2:nr≤2:=by rw[← hln];unfold twoL;rw[List.length_take];omega
  rw[hln] at hE hL
  clear hln
  rcases (by omega:nr=0∨nr=1∨nr=2) with rfl|rfl|rfl
  ·go_wp2
   go_ret2
   exact ⟨none,0,0,by rw[hE.out];rfl,by rw[hL.out];exact IC.nil _,Nat.le_refl _,hbl⟩
  ·obtain ⟨b,off,a1,n1,c1,rfl,hb,hc,hi,hic⟩:=hrc.2 0 (by omega)
   rw[Nat.add_zero] at hc
   have HI:=Lib.hid hi
   clear hrc hi
   go_wp2
   go_ret2
   exact ⟨a1,n1,c1,by rw[hE.out];rfl,by rw[hL.out];exact HI.out,hic,hbl⟩
  ·clear hrc
   go_wp2
   go_ret2
   exact ⟨none,0,0,by rw[hE.out];rfl,by rw[hL.out];exact IC.nil _,Nat.le_refl _,hbl⟩
end
section
open Go Go.RowKit
attribute [local go_sem] over_cell
theorem GoodTask.num' {cells:Int} {ls:List (List Int)} {sum:Int} {g:List Int} (h:GoodTask cells ls sum g) (k:Nat):0≤g[k]?.getD 0∧g[k]?.getD 0≤256:=by
 by_cases hk:k<g.length
 ·have:=h.num k hk;have:=h.cells2;omega
 ·rw[List.getElem?_eq_none (by omega)];decide
theorem GoodTask.glen {cells:Int} {ls:List (List Int)} {sum:Int} {g:List Int} (h:GoodTask cells ls sum g):g.length≤256:=by
 have:=h.len;have:=h.cells2;omega
def beyV (l g:List Int) (sum:Int):Bool:=decide (sum<lowV l g (unusedL g))||decide (highV l g (unusedL g)<sum)
end
end Go.Proofs.YtaadpihbjhachaaGreat
