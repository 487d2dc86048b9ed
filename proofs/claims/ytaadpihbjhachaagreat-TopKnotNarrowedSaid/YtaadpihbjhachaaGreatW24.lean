/- Texts N1 to Reg3 of this proof, in one file. -/
import Derived.Test.YtaadpihbjhachaaGreatW01
import Derived.Test.YtaadpihbjhachaaGreatW17
import Derived.Test.YtaadpihbjhachaaGreatW18
import Derived.Test.YtaadpihbjhachaaGreatW19
import Derived.Test.YtaadpihbjhachaaGreatW20
namespace Go.Proofs.YtaadpihbjhachaaGreat
set_option maxRecDepth 100000
set_option maxHeartbeats 16000000
section
open Go Go.RowKit
attribute [local go_sem] over_cell
attribute [local go_sem] Oper.semAt_some
theorem IC.other {w:World} {b o n b' i:Nat} {xs:List Int} (h:IC w (some ⟨b,o,none⟩) n xs) (hb:b≠b') (v:Value):IC (w.setCell ⟨b',i,none⟩ v) (some ⟨b,o,none⟩) n xs :=
 ⟨h.1,fun k hk=>by
  obtain ⟨b2,off,e,hlt,hc⟩:=h.2 k hk
  cases e
  exact ⟨b,o,rfl,by simpa using hlt,(World.cell?_of_block (Below.heap_setCell _ _ _ _ hb)).trans hc⟩⟩
theorem with6_c (a:Option Addr) (n c:Nat) (cells sum:Int) (a':Option Addr) (n' c':Nat) (g:List Int) (cell:Nat) (x:Int) (w:World) (h':IC w a' n' g) (hc:cell<n') (hn:n'≤256) :
  Calls Tryz.prog 27 #[.agg #[.int .i64 cells,.slice a n c,.int .i64 sum,.slice a' n' c'],.int .i64 cell,.int .i64 x] w fun e w'=>∃gb cg,e = .returned (.agg #[.int .i64 cells,.slice a n c,.int .i64 sum,.slice (some ⟨gb,0,none⟩) n' cg])∧IC w' (some ⟨gb,0,none⟩) n' (g.set cell x)∧n'≤cg∧w.heap.size≤gb∧Below w.heap.size w w':=by
 obtain ⟨i0,hi,hz0,hz1,hz2⟩:=info_parts infoInt
 have H:=Lib.hid h'
 have hlen:=h'.len
 obtain ⟨bl,ol,rfl,hbl,_⟩:=h'.2 0 (by omega)
 have hci:(cell:Int)<(n':Int):=by omega
 have hc0:(0:Int)≤(cell:Int):=by omega
 clear h'
 go_enter Tryz.func27,Tryz.ntmps27
 go_upto_region 1 with fail
 have fsz:((w.alloc (.cells #[.int .i64 cells,.slice a n c,.int .i64 sum,.slice (some ⟨bl,ol,none⟩) n' c'] 30)).alloc (.cells #[.int .i64 0,.slice none 0 0,.int .i64 0,.slice none 0 0] 30)).heap.size=w.heap.size+2:=by simp only[World.size_alloc] <;> omega
 have fB:Below w.heap.size w ((w.alloc (.cells #[.int .i64 cells,.slice a n c,.int .i64 sum,.slice (some ⟨bl,ol,none⟩) n' c'] 30)).alloc (.cells #[.int .i64 0,.slice none 0 0,.int .i64 0,.slice none 0 0] 30)):=((Below.refl _ _).alloc (Nat.le_refl _) _).alloc (by simp only[World.size_alloc];omega) _
 have fq0:((w.alloc (.cells #[.int .i64 cells,.slice a n c,.int .i64 sum,.slice (some ⟨bl,ol,none⟩) n' c'] 30)).alloc (.cells #[.int .i64 0,.slice none 0 0,.int .i64 0,.slice none 0 0] 30)).heap[w.heap.size]?=some (.cells #[.int .i64 cells,.slice a n c,.int .i64 sum,.slice (some ⟨bl,ol,none⟩) n' c'] 30 (0,0)):=by have h:=World.alloc_heap_new w (.cells #[.int .i64 cells,.slice a n c,.int .i64 sum,.slice (some ⟨bl,ol,none⟩) n' c'] 30);exact (Below.heap_alloc _ _ _ (by simp only[World.size_alloc];omega)).trans (h)
 have fq1:((w.alloc (.cells #[.int .i64 cells,.slice a n c,.int .i64 sum,.slice (some ⟨bl,ol,none⟩) n' c'] 30)).alloc (.cells #[.int .i64 0,.slice none 0 0,.int .i64 0,.slice none 0 0] 30)).heap[w.heap.size+1]?=some (.cells #[.int .i64 0,.slice none 0 0,.int .i64 0,.slice none 0 0] 30 (0,0)):=by have h:=World.alloc_heap_new (w.alloc (.cells #[.int .i64 cells,.slice a n c,.int .i64 sum,.slice (some ⟨bl,ol,none⟩) n' c'] 30)) (.cells #[.int .i64 0,.slice none 0 0,.int .i64 0,.slice none 0 0] 30);simp only[World.size_alloc] at h;exact h
 generalize ((w.alloc (.cells #[.int .i64 cells,.slice a n c,.int .i64 sum,.slice (some ⟨bl,ol,none⟩) n' c'] 30)).alloc (.cells #[.int .i64 0,.slice none 0 0,.int .i64 0,.slice none 0 0] 30))=W0 at fsz fB fq0 fq1 ⊢
 have HQ:=Lib.hid fq0
 have HR:=Lib.hid fq1
 have fsz':w.heap.size<W0.heap.size:=by omega
 have FSZ:Hid (w.heap.size+1<W0.heap.size):=by unfold Hid;omega
 have s3:W0.cell? ⟨w.heap.size,3,none⟩=some (.slice (some ⟨bl,ol,none⟩) n' c'):=q_cell fq0 3
 have hic2:=H.out.mono fB
 have HC:=Lib.hid (hic2.cells (p:=⟨bl,ol,none⟩))
 have hbl2:bl<W0.heap.size:=Nat.lt_of_lt_of_le hbl fB.size
 have hownE:(W0.alloc (.cells #[] 3)).ownsRow W0.heap.size 3 1 (.slice (some ⟨W0.heap.size,0,none⟩) 0 0) 0 []:=⟨rfl,.inr ⟨W0.heap.size,0,#[],rfl,Nat.le_refl _,World.alloc_heap_new _ _,Nat.le_refl _,by unfold maxLen;omega,rfl,rfl⟩⟩
 have hBE:Below W0.heap.size W0 (W0.alloc (.cells #[] 3)):=(Below.refl _ _).alloc (Nat.le_refl _) _
 have HNW:Hid (∀j u,(g.map (Value.int .i64))[j]?=some u→(W0.alloc (.cells #[] 3)).cell? ((⟨bl,ol,none⟩:Addr).add j)=some u):=fun j u hj=>by
  have h1:=HC.out j u hj
  rw[← h1]
  have hadd:((⟨bl,ol,none⟩:Addr).add j)=⟨bl,ol+j,none⟩:=by unfold Addr.add;split <;> simp_all
  rw[hadd]
  exact (bcell hBE).1 _ _ hbl2
 clear fq0 fq1 fsz hic2
 go_upto_region 2 with (at_builtin;refine wpList_append_own _ rfl _ _ 25 rfl W0.heap.size 3 i0 (.int .i64 0) 1 8 Tryz.underlying25 hi hz0 hz1 hz2 rfl (by decide) _ _ _ rfl hownE ⟨bl,ol,none⟩ n' c' (g.map (Value.int .i64)) rfl (by rw[List.length_map];omega) HNW.out (by simp[Value.oneCell']) (by unfold maxLen;omega) (by omega) (by simp) ?_;intro v5 w5 hown5 hgrow hnil;clear hnil)
 obtain ⟨a5,c5,rfl⟩:=owns_slice4 hown5
 simp only[Nat.zero_add] at hown5 ⊢
 have hB5:Below W0.heap.size W0 w5:=hBE.grown hgrow (by simp) (fun k e=>by cases e;exact Nat.le_refl _)
 clear hgrow hownE hBE
 have hown6:w5.ownsRow W0.heap.size 3 1 (.slice a5 n' c5) n' (g.map (Value.int .i64)):=by simpa using hown5
 obtain ⟨gb,cur,rfl,hgb,hbk9⟩:=owns_blk hown6 (by omega)
 clear hbk9
 obtain ⟨g9,c9,x9,e9,_,hcell9,hfr9,hlt9,hn9⟩:=owns_free hown6 cell hc
 simp only[Value.slice.injEq,Option.some.injEq,Addr.mk.injEq,true_and,and_true] at e9
 obtain ⟨rfl,hcap9⟩:=e9
 rw[← hcap9] at hn9
 clear hcap9 hown5 s3
 have HQ5:=Lib.hid (keepq hB5 HQ.out)
 have HR5:=Lib.hid (keepq hB5 HR.out)
 clear HNW HC
 go_upto_region 3 with fail
 have o6:=owns_set hown6 cell (.int .i64 x)
 have q6:=q_other HQ5.out (b':=gb) (i:=cell) (by omega) (.int .i64 x)
 have r6:=q_other HR5.out (b':=gb) (i:=cell) (by have:=q_lt HR.out;omega) (.int .i64 x)
 have hB6:Below W0.heap.size W0 (w5.setCell ⟨gb,cell,none⟩ (.int .i64 x)):=hB5.setCell (p:=⟨gb,cell,none⟩) hgb _
 clear hcell9 hfr9 hlt9 hown6 HQ5 HR5
 generalize (w5.setCell ⟨gb,cell,none⟩ (.int .i64 x))=W6 at o6 q6 r6 hB6 ⊢
 rw[← List.map_set] at o6
 have HR6:=Lib.hid r6
 have hbw:=fB.trans (hB6.mono fB.size)
 have x0:W6.cell? ⟨w.heap.size,0,none⟩=some (.int .i64 cells):=q_cell q6 0
 have x1:W6.cell? ⟨w.heap.size,1,none⟩=some (.slice a n c):=q_cell q6 1
 have x2:W6.cell? ⟨w.heap.size,2,none⟩=some (.int .i64 sum):=q_cell q6 2
 have xl:=q_lt q6
 have r0:W6.cell? ⟨w.heap.size+1,0,none⟩=some (.int .i64 0):=q_cell HR6.out 0
 have r1:W6.cell? ⟨w.heap.size+1,1,none⟩=some (.slice none 0 0):=q_cell HR6.out 1
 have r2:W6.cell? ⟨w.heap.size+1,2,none⟩=some (.int .i64 0):=q_cell HR6.out 2
 have r3:W6.cell? ⟨w.heap.size+1,3,none⟩=some (.slice none 0 0):=q_cell HR6.out 3
 have rf0:=q_free HR6.out 0
 have rf1:=q_free HR6.out 1
 have rf2:=q_free HR6.out 2
 have rf3:=q_free HR6.out 3
 have rl:=q_lt HR6.out
 have r:=q_set (i:=3) (q_set (i:=2) (q_set (i:=1) (q_set (i:=0) HR6.out (.int .i64 cells)) (.slice a n c)) (.int .i64 sum)) (.slice (some ⟨gb,0,none⟩) n' c5)
 have z0:=q_cell r 0
 have z1:=q_cell r 1
 have z2:=q_cell r 2
 have z3:=q_cell r 3
 have hwW:=HR.out
 clear q6 r6
 go_wp2_with fail
 have hw0:=FSZ.out
 have hB9:=(((hbw.setCell (p:=⟨w.heap.size+1,0,none⟩) (Nat.le_succ _) (.int .i64 cells)).setCell (p:=⟨w.heap.size+1,1,none⟩) (Nat.le_succ _) (.slice a n c)).setCell (p:=⟨w.heap.size+1,2,none⟩) (Nat.le_succ _) (.int .i64 sum)).setCell (p:=⟨w.heap.size+1,3,none⟩) (Nat.le_succ _) (.slice (some ⟨gb,0,none⟩) n' c5)
 have o9:=IC.of_owns (w:=((((W6.setCell ⟨w.heap.size+1,0,none⟩ (.int .i64 cells)).setCell ⟨w.heap.size+1,1,none⟩ (.slice a n c)).setCell ⟨w.heap.size+1,2,none⟩ (.int .i64 sum)).setCell ⟨w.heap.size+1,3,none⟩ (.slice (some ⟨gb,0,none⟩) n' c5))) (xs:=g.set cell x) (base:=W0.heap.size) (a:=some ⟨gb,0,none⟩) (n:=n') (c:=c5) (e:=3) (by
  rw[List.length_set,hlen]
  exact owns_keep o6 (fun k e _=>by
   have h9:=owns_ge o6 e
   have hk:k≠w.heap.size+1:=by omega
   exact (((Below.heap_setCell _ _ _ _ hk).trans (Below.heap_setCell _ _ _ _ hk)).trans (Below.heap_setCell _ _ _ _ hk)).trans (Below.heap_setCell _ _ _ _ hk))) (by rw[List.length_set];omega)
 refine bodyPost_ret (v := .agg #[.int .i64 cells,.slice a n c,.int .i64 sum,.slice (some ⟨gb,0,none⟩) n' c5]) ?_ rfl ⟨gb,c5,rfl,o9.1,o9.2,by omega,hB9⟩
 simp[results,Tryz.f27,go_sem,z0,z1,z2,z3]
end
section
open Go Go.RowKit
section
variable {P:Program} {ops:Array Oper} {Q:Exit→Act→World→Prop} {md:Region.Mode} {S:World→Prop}
theorem loud_step (hs:Region.noSelect ops=true) (lt:List Nat) (hQ:∀c a d v w,Q (.panic c) (Act.put a d v) w→Q (.panic c) a w) {i:Nat} {t:List (Nat × Nat)} {listed:Array Bool} {a:Act} {w:World}
  (hcl:Closed md ops listed) (hS:S w) (hr:i∈Region.ready md ops listed) (hc:seqOk md ops lt t (listed.setIfInBounds i true)=true) (h:wpS P ops S Q (pickOps ops.toList ((1,i) :: t)) a w) :
  wpOp P ops Q i (fun a' w'=>(lt.contains i=false→S w')∧wpL P md ops Q S (fun i=>lt.contains i) t.length (listed.setIfInBounds i true) a' w') a w:=by
 obtain ⟨oi,hoi⟩:∃oi,ops[i]?=some oi:=by
  obtain ⟨_,oi,h1,_⟩:=(mem_ready (md:=md) (ops:=ops) (listed:=listed) (j:=i)).1 hr
  exact ⟨oi,h1⟩
 have hp:nthOp ops.toList i=some oi:=by rw[nthOp_eq];simpa using hoi
 simp only[pickOps,hp,wpS] at h
 refine wpOp_of_if hoi ?_
 split
 ·rename_i hw
  rw[if_pos hw] at h
  exact h.imp (Oper.wp_mono fun a' w' hk=>⟨fun _=>hk.1,wpL_of_S hs lt hQ t _ a' w' (hcl.set hr) (fun _=>hk.1) hc hk.2⟩) id
 ·rename_i hw
  rw[if_neg hw] at h
  exact ⟨fun _=>hS,wpL_of_S hs lt hQ t _ _ w (hcl.set hr) (fun _=>hS) hc h⟩
end
end
end Go.Proofs.YtaadpihbjhachaaGreat
