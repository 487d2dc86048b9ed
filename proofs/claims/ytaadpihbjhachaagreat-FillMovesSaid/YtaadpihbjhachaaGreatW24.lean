/- Texts N1 to Reg3 of this proof, in one file. -/
import Derived.Test.YtaadpihbjhachaaGreatW01
import Derived.Test.YtaadpihbjhachaaGreatW17
import Derived.Test.YtaadpihbjhachaaGreatW18
import Derived.Test.YtaadpihbjhachaaGreatW19
import Derived.Test.YtaadpihbjhachaaGreatW20
namespace Go.Proofs.YtaadpihbjhachaaGreat
set_option maxRecDepth 100000
set_option maxHeartbeats 16000000
section
open Go Go.RowKit
attribute [local go_sem] zv
attribute [local go_sem] Oper.semAt_some
theorem IC.other {w:World} {b o n b' i:Nat} {xs:List Int} (h:IC w (some ⟨b,o,none⟩) n xs) (hb:b≠b') (v:Value):IC (w.setCell ⟨b',i,none⟩ v) (some ⟨b,o,none⟩) n xs :=
 ⟨h.1,fun k hk=>by
  obtain ⟨b2,off,e,hlt,hc⟩:=h.2 k hk
  cases e
  exact ⟨b,o,rfl,by simpa using hlt,(World.cell?_of_block (Below.heap_setCell _ _ _ _ hb)).trans hc⟩⟩
theorem with6_c (a:Option Addr) (n c:Nat) (cells sum:Int) (a':Option Addr) (n' c':Nat) (g:List Int) (cell:Nat) (x:Int) (w:World) (h':IC w a' n' g) (hc:cell<n') (hn:n'≤256) :
  Calls Tryz.prog 27 #[.agg #[.int .i64 cells,.slice a n c,.int .i64 sum,.slice a' n' c'],.int .i64 cell,.int .i64 x] w fun e w'=>∃gb cg,e = .returned (.agg #[.int .i64 cells,.slice a n c,.int .i64 sum,.slice (some ⟨gb,0,none⟩) n' cg])∧IC w' (some ⟨gb,0,none⟩) n' (g.set cell x)∧n'≤cg∧w.heap.size≤gb∧Below w.heap.size w w':=by
 obtain ⟨i0,hi,hz0,hz1,hz2⟩:=info_parts qk
 have H:=za h'
 have hlen:=h'.len
 obtain ⟨bl,ol,rfl,hbl,_⟩:=h'.2 0 (by omega)
 have hci:(cell:Int)<(n':Int):=by omega
 have hc0:(0:Int)≤(cell:Int):=by omega
 clear h'
 go_enter Tryz.func27,Tryz.ntmps27
 go_upto_region 1 with fail
 have fsz:((w.alloc (.cells #[.int .i64 cells,.slice a n c,.int .i64 sum,.slice (some ⟨bl,ol,none⟩) n' c'] 30)).alloc (.cells #[.int .i64 0,.slice none 0 0,.int .i64 0,.slice none 0 0] 30)).heap.size=w.heap.size+2:=by simp only[World.size_alloc] <;> omega
 have fB:Below w.heap.size w ((w.alloc (.cells #[.int .i64 cells,.slice a n c,.int .i64 sum,.slice (some ⟨bl,ol,none⟩) n' c'] 30)).alloc (.cells #[.int .i64 0,.slice none 0 0,.int .i64 0,.slice none 0 0] 30)):=((Below.refl _ _).alloc (Nat.le_refl _) _).alloc (by simp only[World.size_alloc];omega) _
 have fq0:((w.alloc (.cells #[.int .i64 cells,.slice a n c,.int .i64 sum,.slice (some ⟨bl,ol,none⟩) n' c'] 30)).alloc (.cells #[.int .i64 0,.slice none 0 0,.int .i64 0,.slice none 0 0] 30)).heap[w.heap.size]?=some (.cells #[.int .i64 cells,.slice a n c,.int .i64 sum,.slice (some ⟨bl,ol,none⟩) n' c'] 30 (0,0)):=by have h:=World.alloc_heap_new w (.cells #[.int .i64 cells,.slice a n c,.int .i64 sum,.slice (some ⟨bl,ol,none⟩) n' c'] 30);exact (Below.heap_alloc _ _ _ (by simp only[World.size_alloc];omega)).trans (h)
 have fq1:((w.alloc (.cells #[.int .i64 cells,.slice a n c,.int .i64 sum,.slice (some ⟨bl,ol,none⟩) n' c'] 30)).alloc (.cells #[.int .i64 0,.slice none 0 0,.int .i64 0,.slice none 0 0] 30)).heap[w.heap.size+1]?=some (.cells #[.int .i64 0,.slice none 0 0,.int .i64 0,.slice none 0 0] 30 (0,0)):=by have h:=World.alloc_heap_new (w.alloc (.cells #[.int .i64 cells,.slice a n c,.int .i64 sum,.slice (some ⟨bl,ol,none⟩) n' c'] 30)) (.cells #[.int .i64 0,.slice none 0 0,.int .i64 0,.slice none 0 0] 30);simp only[World.size_alloc] at h;exact h
 generalize ((w.alloc (.cells #[.int .i64 cells,.slice a n c,.int .i64 sum,.slice (some ⟨bl,ol,none⟩) n' c'] 30)).alloc (.cells #[.int .i64 0,.slice none 0 0,.int .i64 0,.slice none 0 0] 30))=W0 at fsz fB fq0 fq1 ⊢
 have HQ:=za fq0
 have HR:=za fq1
 have fsz':w.heap.size<W0.heap.size:=by omega
 have FSZ:Hid (w.heap.size+1<W0.heap.size):=by unfold Hid;omega
 have s3:W0.cell? ⟨w.heap.size,3,none⟩=some (.slice (some ⟨bl,ol,none⟩) n' c'):=zc fq0 3
 have hic2:=H.out.mono fB
 have HC:=za (hic2.cells (p:=⟨bl,ol,none⟩))
 have hbl2:bl<W0.heap.size:=Nat.lt_of_lt_of_le hbl fB.size
 have hownE:(W0.alloc (.cells #[] 3)).ownsRow W0.heap.size 3 1 (.slice (some ⟨W0.heap.size,0,none⟩) 0 0) 0 []:=⟨rfl,.inr ⟨W0.heap.size,0,#[],rfl,Nat.le_refl _,World.alloc_heap_new _ _,Nat.le_refl _,by unfold maxLen;omega,rfl,rfl⟩⟩
 have hBE:Below W0.heap.size W0 (W0.alloc (.cells #[] 3)):=(Below.refl _ _).alloc (Nat.le_refl _) _
 have HNW:Hid (∀j u,(g.map (Value.int .i64))[j]?=some u→(W0.alloc (.cells #[] 3)).cell? ((⟨bl,ol,none⟩:Addr).add j)=some u):=fun j u hj=>by
  have h1:=HC.out j u hj
  rw[← h1]
  have hadd:((⟨bl,ol,none⟩:Addr).add j)=⟨bl,ol+j,none⟩:=by unfold Addr.add;split <;> simp_all
  rw[hadd]
  exact (zF hBE).1 _ _ hbl2
 clear fq0 fq1 fsz hic2
 go_upto_region 2 with (at_builtin;refine wpList_append_own _ rfl _ _ 25 rfl W0.heap.size 3 i0 (.int .i64 0) 1 8 Tryz.underlying25 hi hz0 hz1 hz2 rfl (by decide) _ _ _ rfl hownE ⟨bl,ol,none⟩ n' c' (g.map (Value.int .i64)) rfl (by rw[List.length_map];omega) HNW.out (by simp[Value.oneCell']) (by unfold maxLen;omega) (by omega) (by simp) ?_;intro v5 w5 hown5 hgrow hnil;clear hnil)
 obtain ⟨a5,c5,rfl⟩:=zM hown5
 simp only[Nat.zero_add] at hown5 ⊢
 have hB5:Below W0.heap.size W0 w5:=hBE.grown hgrow (by simp) (fun k e=>by cases e;exact Nat.le_refl _)
 clear hgrow hownE hBE
 have hown6:w5.ownsRow W0.heap.size 3 1 (.slice a5 n' c5) n' (g.map (Value.int .i64)):=by simpa using hown5
 obtain ⟨gb,cur,rfl,hgb,hbk9⟩:=owns_blk hown6 (by omega)
 clear hbk9
 obtain ⟨g9,c9,x9,e9,_,hcell9,hfr9,hlt9,hn9⟩:=jq hown6 cell hc
 simp only[Value.slice.injEq,Option.some.injEq,Addr.mk.injEq,true_and,and_true] at e9
 obtain ⟨rfl,hcap9⟩:=e9
 rw[← hcap9] at hn9
 clear hcap9 hown5 s3
 have HQ5:=za (zm hB5 HQ.out)
 have HR5:=za (zm hB5 HR.out)
 clear HNW HC
 go_upto_region 3 with fail
 have o6:=qJ hown6 cell (.int .i64 x)
 have q6:=zU HQ5.out (b':=gb) (i:=cell) (by omega) (.int .i64 x)
 have r6:=zU HR5.out (b':=gb) (i:=cell) (by have:=zy HR.out;omega) (.int .i64 x)
 have hB6:Below W0.heap.size W0 (w5.setCell ⟨gb,cell,none⟩ (.int .i64 x)):=hB5.setCell (p:=⟨gb,cell,none⟩) hgb _
 clear hcell9 hfr9 hlt9 hown6 HQ5 HR5
 generalize (w5.setCell ⟨gb,cell,none⟩ (.int .i64 x))=W6 at o6 q6 r6 hB6 ⊢
 rw[← List.map_set] at o6
 have HR6:=za r6
 have hbw:=fB.trans (hB6.mono fB.size)
 have x0:W6.cell? ⟨w.heap.size,0,none⟩=some (.int .i64 cells):=zc q6 0
 have x1:W6.cell? ⟨w.heap.size,1,none⟩=some (.slice a n c):=zc q6 1
 have x2:W6.cell? ⟨w.heap.size,2,none⟩=some (.int .i64 sum):=zc q6 2
 have xl:=zy q6
 have r0:W6.cell? ⟨w.heap.size+1,0,none⟩=some (.int .i64 0):=zc HR6.out 0
 have r1:W6.cell? ⟨w.heap.size+1,1,none⟩=some (.slice none 0 0):=zc HR6.out 1
 have r2:W6.cell? ⟨w.heap.size+1,2,none⟩=some (.int .i64 0):=zc HR6.out 2
 have r3:W6.cell? ⟨w.heap.size+1,3,none⟩=some (.slice none 0 0):=zc HR6.out 3
 have rf0:=zo HR6.out 0
 have rf1:=zo HR6.out 1
 have rf2:=zo HR6.out 2
 have rf3:=zo HR6.out 3
 have rl:=zy HR6.out
 have r:=zC (i:=3) (zC (i:=2) (zC (i:=1) (zC (i:=0) HR6.out (.int .i64 cells)) (.slice a n c)) (.int .i64 sum)) (.slice (some ⟨gb,0,none⟩) n' c5)
 have z0:=zc r 0
 have z1:=zc r 1
 have z2:=zc r 2
 have z3:=zc r 3
 have hwW:=HR.out
 clear q6 r6
 go_wp2_with fail
 have hw0:=FSZ.out
 have hB9:=(((hbw.setCell (p:=⟨w.heap.size+1,0,none⟩) (Nat.le_succ _) (.int .i64 cells)).setCell (p:=⟨w.heap.size+1,1,none⟩) (Nat.le_succ _) (.slice a n c)).setCell (p:=⟨w.heap.size+1,2,none⟩) (Nat.le_succ _) (.int .i64 sum)).setCell (p:=⟨w.heap.size+1,3,none⟩) (Nat.le_succ _) (.slice (some ⟨gb,0,none⟩) n' c5)
 have o9:=IC.of_owns (w:=((((W6.setCell ⟨w.heap.size+1,0,none⟩ (.int .i64 cells)).setCell ⟨w.heap.size+1,1,none⟩ (.slice a n c)).setCell ⟨w.heap.size+1,2,none⟩ (.int .i64 sum)).setCell ⟨w.heap.size+1,3,none⟩ (.slice (some ⟨gb,0,none⟩) n' c5))) (xs:=g.set cell x) (base:=W0.heap.size) (a:=some ⟨gb,0,none⟩) (n:=n') (c:=c5) (e:=3) (by
  rw[List.length_set,hlen]
  exact zw o6 (fun k e _=>by
   have h9:=zL o6 e
   have hk:k≠w.heap.size+1:=by omega
   exact (((Below.heap_setCell _ _ _ _ hk).trans (Below.heap_setCell _ _ _ _ hk)).trans (Below.heap_setCell _ _ _ _ hk)).trans (Below.heap_setCell _ _ _ _ hk))) (by rw[List.length_set];omega)
 refine bodyPost_ret (v := .agg #[.int .i64 cells,.slice a n c,.int .i64 sum,.slice (some ⟨gb,0,none⟩) n' c5]) ?_ rfl ⟨gb,c5,rfl,o9.1,o9.2,by omega,hB9⟩
 simp[results,Tryz.f27,go_sem,z0,z1,z2,z3]
end
section
open Go Go.RowKit
attribute [local go_sem] zv
attribute [local go_sem] Oper.semAt_some
theorem nodeBad_kind {n:Nat} {d:Nd} (h:qm d.kind=false):jx n d=13:=by
 unfold jx;rw[h];rfl
theorem nodeBad_ok {n:Nat} {d:Nd} (h:qm d.kind=true):jx n d=if d.kids<0∨(n:Int)<d.kids then 3 else 0:=by
 unfold jx;rw[h]
 by_cases h1:d.kids<0∨(n:Int)<d.kids
 ·rw[if_pos h1,show (decide (d.kids<0)||decide ((n:Int)<d.kids))=true from by simpa using h1];rfl
 ·rw[if_neg h1,show (decide (d.kids<0)||decide ((n:Int)<d.kids))=false from by simpa using h1];rfl
theorem rtree_c (v0 v1 v2:Value) (a':Option Addr) (n' c':Nat) (a:Option Addr) (n c:Nat) (T:List Nd) (w:World) (ht:TC w a n T) :
  Calls Tryz.prog 19 #[.agg #[v0,v1,v2,.slice a' n' c'],.slice a n c] w fun e w'=>e = .returned (.int .i64 (jD n' T))∧Below w.heap.size w w':=by
 have HT:=za ht
 have hns:=ht.1.2
 have htl:=za ht.1.1
 have hTE:Hid (jD n' T=if 1000000<n then 5 else qQ (fun k=>jx n' (ndAt T k)) n):=by unfold Hid jD;rw[ht.1.1]
 clear ht
 by_cases hbig:1000000<n
 ·rw[if_pos hbig] at hTE
  have hb2:(1000000:Int)<(n:Int):=by omega
  clear hbig
  go_enter Tryz.func19,Tryz.ntmps19
  go_wp2_with fail
  have fsz:(w.alloc (.cells #[v0,v1,v2,.slice a' n' c'] 30)).heap.size=w.heap.size+1:=by simp only[World.size_alloc]
  have fB:Below w.heap.size w (w.alloc (.cells #[v0,v1,v2,.slice a' n' c'] 30)):=(Below.refl _ _).alloc (Nat.le_refl _) _
  have fq0:(w.alloc (.cells #[v0,v1,v2,.slice a' n' c'] 30)).heap[w.heap.size]?=some (.cells #[v0,v1,v2,.slice a' n' c'] 30 (0,0)):=by have h:=World.alloc_heap_new w (.cells #[v0,v1,v2,.slice a' n' c'] 30);exact h
  generalize (w.alloc (.cells #[v0,v1,v2,.slice a' n' c'] 30))=W0 at fsz fB fq0 ⊢
  clear fq0 fsz
  go_ret
  exact ⟨zD hTE.out.symm,fB⟩
 ·rw[if_neg hbig] at hTE
  have hb2:¬(1000000:Int)<(n:Int):=by omega
  clear hbig
  go_enter Tryz.func19,Tryz.ntmps19
  go_wp2_with fail
  have fsz:(w.alloc (.cells #[v0,v1,v2,.slice a' n' c'] 30)).heap.size=w.heap.size+1:=by simp only[World.size_alloc]
  have fB:Below w.heap.size w (w.alloc (.cells #[v0,v1,v2,.slice a' n' c'] 30)):=(Below.refl _ _).alloc (Nat.le_refl _) _
  have fq0:(w.alloc (.cells #[v0,v1,v2,.slice a' n' c'] 30)).heap[w.heap.size]?=some (.cells #[v0,v1,v2,.slice a' n' c'] 30 (0,0)):=by have h:=World.alloc_heap_new w (.cells #[v0,v1,v2,.slice a' n' c'] 30);exact h
  generalize (w.alloc (.cells #[v0,v1,v2,.slice a' n' c'] 30))=W0 at fsz fB fq0 ⊢
  have HQ:=za fq0
  clear fq0 fsz
  go_loopw [5,6] (fun i _ wr=>∃k:Nat,k≤n∧i = .int .i64 k∧Hid (∀j,j<k→jx n' (ndAt T j)=0)∧Below W0.heap.size W0 wr) (fun i _ _=>n - (intOf i).toNat)
  case atStart=>exact ⟨0,by omega,rfl,fun j hj=>absurd hj (by omega),Below.refl _ _⟩
  case round =>
   obtain ⟨k,hk,rfl,hno,hbr⟩:=hrel
   have hBr:=fB.trans (hbr.mono fB.size)
   by_cases hlt:k<n
   ·obtain ⟨d,hd⟩:∃d,T[k]?=some d:=⟨T[k]'(by rw[htl.out];exact hlt),List.getElem?_eq_getElem _⟩
    have HND:Hid (ndAt T k=d):=by unfold Hid ndAt;rw[hd];rfl
    obtain ⟨bt,off,rfl,hbt,t0,t1,t2,t3,t4⟩:=(HT.out.mono hBr).2 k d hd
    have hki:(k:Int)<(n:Int):=by omega
    have x3:wr.cell? ⟨w.heap.size,3,none⟩=some (.slice a' n' c'):=zc (zm hbr HQ.out) 3
    have xl:=zy (zm hbr HQ.out)
    have hbA:Below w.heap.size w (wr.alloc (.cells #[.string d.kind,.int .i64 d.cell,.int .i64 d.line,.int .i64 d.number,.int .i64 d.kids] 104)):=hBr.alloc hBr.size _
    have hbA0:Below W0.heap.size W0 (wr.alloc (.cells #[.string d.kind,.int .i64 d.cell,.int .i64 d.line,.int .i64 d.number,.int .i64 d.kids] 104)):=hbr.alloc hbr.size _
    clear hd
    cases hK:qm d.kind with
    | false =>
     have hf:isK d.kind kLine=false∧isK d.kind kCell=false∧isK d.kind kNumber=false:=by
      unfold qm at hK
      simp only[Bool.or_eq_false_iff] at hK
      exact hK
     have f1:(d.kind.toList==[108,105,110,101])=false:=by rw[← kLine_l];exact hf.1
     have f2:(d.kind.toList==[99,101,108,108])=false:=by rw[← kCell_l];exact hf.2.1
     have f3:(d.kind.toList==[110,117,109,98,101,114])=false:=by rw[← kNumber_l];exact hf.2.2
     have hG:=za (nodeBad_kind (n:=n') hK)
     clear hf hK
     go_wp2_with fail
     go_ret
     have h1:=zS (f:=fun k=>jx n' (ndAt T k)) hno.out hlt (by rw[HND.out,hG.out];decide)
     exact ⟨zD (by rw[hTE.out,h1,HND.out,hG.out]),hbA⟩
    | true =>
     have hf:(d.kind.toList==[108,105,110,101])=true∨((d.kind.toList==[108,105,110,101])=false∧(d.kind.toList==[99,101,108,108])=true)∨((d.kind.toList==[108,105,110,101])=false∧(d.kind.toList==[99,101,108,108])=false∧(d.kind.toList==[110,117,109,98,101,114])=true):=by
      rw[← kLine_l,← kCell_l,← kNumber_l]
      unfold qm isK at hK
      revert hK
      cases d.kind.toList==kLine.toList <;> cases d.kind.toList==kCell.toList <;> cases d.kind.toList==kNumber.toList <;> simp
     have HG:=za (nodeBad_ok (n:=n') hK)
     clear hK
     by_cases hk0:d.kids<0
     ·have hG:Hid (jx n' d=3):=by unfold Hid;rw[HG.out,if_pos (.inl hk0)]
      rcases hf with f1|⟨f1,f2⟩|⟨f1,f2,f3⟩
      all_goals
       go_wp2_with fail
       go_ret
       have h1:=zS (f:=fun k=>jx n' (ndAt T k)) hno.out hlt (by rw[HND.out,hG.out];decide)
       exact ⟨zD (by rw[hTE.out,h1,HND.out,hG.out]),hbA⟩
     ·by_cases hk1:(n':Int)<d.kids
      ·have hG:Hid (jx n' d=3):=by unfold Hid;rw[HG.out,if_pos (.inr hk1)]
       rcases hf with f1|⟨f1,f2⟩|⟨f1,f2,f3⟩
       all_goals
        go_wp2_with fail
        go_ret
        have h1:=zS (f:=fun k=>jx n' (ndAt T k)) hno.out hlt (by rw[HND.out,hG.out];decide)
        exact ⟨zD (by rw[hTE.out,h1,HND.out,hG.out]),hbA⟩
      ·have hG:Hid (jx n' d=0):=by unfold Hid;rw[HG.out,if_neg (by omega)]
       rcases hf with f1|⟨f1,f2⟩|⟨f1,f2,f3⟩
       all_goals
        go_wp2_with fail
        go_roundw
        case rel=>exact ⟨k+1,by omega,by go_num,jj hno.out (by rw[HND.out,hG.out]),hbA0⟩
        case measure=>simp[intOf];omega
   ·have e:k=n:=by omega
    subst e
    go_wp2_with fail
    go_ret
    exact ⟨zD (by rw[hTE.out,ju hno.out]),hBr⟩
end
section
open Go Go.RowKit
section
variable {P:Program} {ops:Array Oper} {Q:Exit→Act→World→Prop} {md:Region.Mode} {S:World→Prop}
def forkOk (md:Region.Mode) (ops:Array Oper) (lt:List Nat) (i j:Nat) (r:List (Nat × Nat)):List Nat→Array Bool→Bool
 | [],listed=>((Region.ready md ops listed)==[i,j])&&kd md ops lt ((1,j) :: r) (listed.setIfInBounds i true)&&kd md ops lt ((1,i) :: r) (listed.setIfInBounds j true)
 | k :: qs,listed =>
  (Region.ready md ops listed).contains k&&Region.free md ops listed k&&!lt.contains k&&lt.all (fun j=>(closure md ops ops.size (aftersOf md ops j)).contains k)&&forkOk md ops lt i j r qs (listed.setIfInBounds k true)
theorem loud_step (hs:Region.noSelect ops=true) (lt:List Nat) (hQ:∀c a d v w,Q (.panic c) (Act.put a d v) w→Q (.panic c) a w) {i:Nat} {t:List (Nat × Nat)} {listed:Array Bool} {a:Act} {w:World}
  (hcl:Closed md ops listed) (hS:S w) (hr:i∈Region.ready md ops listed) (hc:kd md ops lt t (listed.setIfInBounds i true)=true) (h:wpS P ops S Q (zt ops.toList ((1,i) :: t)) a w) :
  wpOp P ops Q i (fun a' w'=>(lt.contains i=false→S w')∧wpL P md ops Q S (fun i=>lt.contains i) t.length (listed.setIfInBounds i true) a' w') a w:=by
 obtain ⟨oi,hoi⟩:∃oi,ops[i]?=some oi:=by
  obtain ⟨_,oi,h1,_⟩:=(mem_ready (md:=md) (ops:=ops) (listed:=listed) (j:=i)).1 hr
  exact ⟨oi,h1⟩
 have hp:zG ops.toList i=some oi:=by rw[qK];simpa using hoi
 simp only[zt,hp,wpS] at h
 refine wpOp_of_if hoi ?_
 split
 ·rename_i hw
  rw[if_pos hw] at h
  exact h.imp (Oper.wp_mono fun a' w' hk=>⟨fun _=>hk.1,wpL_of_S hs lt hQ t _ a' w' (hcl.set hr) (fun _=>hk.1) hc hk.2⟩) id
 ·rename_i hw
  rw[if_neg hw] at h
  exact ⟨fun _=>hS,wpL_of_S hs lt hQ t _ _ w (hcl.set hr) (fun _=>hS) hc h⟩
theorem wpL_of_fork (hs:Region.noSelect ops=true) (lt:List Nat) (i j:Nat) (r:List (Nat × Nat)) (hQ:∀c a d v w,Q (.panic c) (Act.put a d v) w→Q (.panic c) a w) :
  ∀(qs:List Nat) (listed:Array Bool) (a:Act) (w:World),Closed md ops listed→S w→forkOk md ops lt i j r qs listed=true →
   wpS P ops S Q (zt ops.toList (qs.map (fun k=>(0,k))++(1,i) :: (1,j) :: r)) a w→wpS P ops S Q (zt ops.toList (qs.map (fun k=>(0,k))++(1,j) :: (1,i) :: r)) a w →
   wpL P md ops Q S (fun i=>lt.contains i) (qs.length+(r.length+2)) listed a w
 | [],listed,a,w,hcl,hSw,hc,h1,h2=>by
  simp only[forkOk,Bool.and_eq_true,beq_iff_eq] at hc
  obtain ⟨⟨hr,hc1⟩,hc2⟩:=hc
  rw[show ([]:List Nat).length+(r.length+2)=(r.length+1)+1 from by simp]
  refine ⟨fun h0=>absurd (hr▸h0) (by simp),fun k hk=>?_⟩
  have hk':=hk
  rw[hr] at hk'
  rcases List.mem_cons.1 hk' with rfl|hk2
  ·exact loud_step hs lt hQ (t:=(1,j) :: r) hcl hSw hk hc1 h1
  ·obtain rfl:k=j:=by simpa using hk2
   exact loud_step hs lt hQ (t:=(1,i) :: r) hcl hSw hk hc2 h2
 | k :: qs,listed,a,w,hcl,hSw,hc,h1,h2=>by
  simp only[forkOk,Bool.and_eq_true] at hc
  obtain ⟨⟨⟨⟨hr,hf⟩,hnl⟩,hla⟩,hc'⟩:=hc
  obtain ⟨oi,hoi⟩:∃oi,ops[k]?=some oi:=by
   obtain ⟨_,oi,h1,_⟩:=(mem_ready (md:=md) (ops:=ops) (listed:=listed) (j:=k)).1 (by simpa using hr)
   exact ⟨oi,h1⟩
  have hp:zG ops.toList k=some oi:=by rw[qK];simpa using hoi
  have hnl':lt.contains k=false:=by simpa using hnl
  have hlate:∀j listed,lt.contains j=true→Closed md ops listed→j∈Region.ready md ops listed→listed.getD k false=true:=by
   intro j listed' hl hcl' hj
   have h1:=List.all_eq_true.1 hla j (by simpa using hl)
   exact qP hcl' _ _ (ready_afters hj) k (by simpa using h1)
  simp only[List.map_cons,List.cons_append,zt,hp,wpS] at h1 h2
  rw[show (k :: qs).length+(r.length+2)=(qs.length+(r.length+2))+1 from by simp only[List.length_cons];omega]
  have key:∀v,YieldsIf P ops S oi v a→wpS P ops S Q (zt ops.toList (qs.map (fun k=>(0,k))++(1,i) :: (1,j) :: r)) (a.put oi.dst v) w→wpS P ops S Q (zt ops.toList (qs.map (fun k=>(0,k))++(1,j) :: (1,i) :: r)) (a.put oi.dst v) w→wpL P md ops Q S (fun i=>lt.contains i) (qs.length+(r.length+2)+1) listed a w:=by
   intro v hy k1 k2
   exact wpL_first hoi (Region.noSelect_spec hs) (fun c a' w'=>hQ c a' _ _ w') hnl' hlate (qs.length+(r.length+2)) listed a w hcl (Region.free_spec hoi hf) (by simpa using hr) hy hSw
    (wpL_of_fork hs lt i j r hQ qs _ _ w (hcl.set (by simpa using hr)) hSw hc' k1 k2)
  by_cases hw:Region.wanted oi (yielded ops a.tmps)=true
  ·rw[if_pos hw] at h1 h2
   obtain ⟨v,hv,hK⟩:=h1
   obtain ⟨v2,hv2,hK2⟩:=h2
   have e:=(hv w hSw).symm.trans (hv2 w hSw)
   simp only[Result.ok.injEq,Next.value.injEq,and_true] at e
   subst e
   exact key v (.inl ⟨hw,hv⟩) hK hK2
  ·rw[if_neg hw] at h1 h2
   exact key undef (.inr ⟨by simpa using hw,rfl⟩) h1 h2
theorem wp_region_fork {id:Nat} {l:List Oper} {a:Act} {w:World} (S:World→Prop) (lt qs:List Nat) (i j:Nat) (r:List (Nat × Nat))
  (hm:P.follows .mixedOrders=true) (hc:(Region.noSelect l.toArray&&decide (qs.length+(r.length+2)≤l.length)&&forkOk .any l.toArray lt i j r qs (Array.replicate l.length false))=true)
  (hS:S w.drew)
  (h1:wpS P l.toArray S (NoPanic Q) (zt l (qs.map (fun k=>(0,k))++(1,i) :: (1,j) :: r)) a w.drew)
  (h2:wpS P l.toArray S (NoPanic Q) (zt l (qs.map (fun k=>(0,k))++(1,j) :: (1,i) :: r)) a w.drew):(Code.region id l.toArray true).wp P Q a w:=by
 refine wp_region_noPanic ?_
 simp only[Bool.and_eq_true,decide_eq_true_eq] at hc
 obtain ⟨⟨hs,hlen⟩,hc⟩:=hc
 refine wp_region_any hm ?_
 obtain ⟨m,hm'⟩:∃m,l.toArray.size=(qs.length+(r.length+2))+m:=⟨l.length - (qs.length+(r.length+2)),by simp;omega⟩
 rw[hm']
 refine wpAny_more _ _ _ _ _ (wpAny_of_L (S:=S) (late:=fun i=>lt.contains i) _ _ _ _ ?_)
 have e:Array.replicate (qs.length+(r.length+2)+m) false=Array.replicate l.length false:=by rw[← hm'];simp
 rw[e]
 exact wpL_of_fork hs lt i j r (fun _ _ _ _ _ h=>h) qs _ a w.drew (closed_none _) hS hc h1 h2
end
end
end Go.Proofs.YtaadpihbjhachaaGreat
