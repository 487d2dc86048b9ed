/- Texts B11 to B11 of this proof, in one file. -/
import Derived.Test.YtaadpihbjhachaaGreatW04
import Derived.Test.YtaadpihbjhachaaGreatW18
import Derived.Test.YtaadpihbjhachaaGreatW21
import Derived.Test.YtaadpihbjhachaaGreatW22
namespace Go.Proofs.YtaadpihbjhachaaGreat
set_option maxRecDepth 100000
set_option maxHeartbeats 16000000
section
open Go Go.RowKit
attribute [local go_sem] over_cell
attribute [local go_sem] Oper.semAt_some
def MvOut (B:Nat) (w':World) (n n':Nat) (L:List (List Int)) (s:Int) (G:List Int) (v:Value):Prop :=
 ∃al cl bg pre,v = .agg #[.int .i64 (n':Int),.slice al n cl,.int .i64 s,.slice (some ⟨bg,0,none⟩) n' n']∧RC w' al n L∧n≤cl∧IC w' (some ⟨bg,0,none⟩) n' G∧B≤bg∧RowsI w' (fun _=>False) B (.slice al n cl) pre∧pre.map Prod.snd=L
def TaskV (v:Value):Prop:=∃c1 a1 n1 k1 s1 a2 n2 k2,v = .agg #[.int .i64 c1,.slice a1 n1 k1,.int .i64 s1,.slice a2 n2 k2]
def mvE (cp:Bool) (n':Int) (ls:List (List Int)) (sum:Int):Int :=
 if (cp&&!levelB ls)=true then 2 else if (decide (cmS cp n' (lenV ls) sum<1)||decide (999999999<cmS cp n' (lenV ls) sum))=true then 3 else 0
theorem RowsI.ofL {W:World} {M:Nat→Prop} {L:Nat} {v:Value} {pre:List (Value × List Int)} (h:RowsI W (fun _=>False) L v pre) (hb:∀k,M k→k<L):RowsI W M L v pre :=
 ⟨h.1,fun k e hm=>by have h1:=(h.1.lt k e).1;have h2:=hb k hm;omega,fun x hx=>⟨(h.2.2 x hx).1,fun k e=>⟨fun hm=>by have h1:=((h.2.2 x hx).1.lt k e).1;have h2:=hb k hm;omega,((h.2.2 x hx).2 k e).2⟩⟩⟩
theorem rows_rc {W:World} {L k cv:Nat} {av:Option Addr} {pre:List (Value × List Int)} (h:RowsI W (fun _=>False) L (.slice av k cv) pre) (hk:pre.length=k) (hn:k≤128) (hm:∀x,x∈pre→x.2.length≤1000) (R:List (List Int)) (e:pre.map Prod.snd=R):RC W av k R∧k≤cv:=by
 obtain ⟨a,c,e1,h1,h2⟩:=h.rc (by omega) (fun x hx=>by have:=hm x hx;omega)
 rw[hk] at e1 h1 h2
 simp only[Value.slice.injEq,true_and] at e1
 obtain ⟨rfl,rfl⟩:=e1
 rw[e] at h1
 exact ⟨h1,h2⟩
theorem movetask_v {ls:List (List Int)} {sum:Int} {g:List Int} {n':Nat} (G:GoodTask (n':Int) ls sum g) (ht:taskErr (n':Int) ls sum g=0) (a:Option Addr) (n c:Nat) (a':Option Addr) (c':Nat) (ap:Option Addr) (cap:Nat) (p:List Int) (cp:Bool) (w:World)
  (h:RC w a n ls) (hcap:n≤c) (h':IC w a' n' g) (hcap':n'≤c') (hp:IC w ap n' p) (hpe:permE p=0) :
  Calls Tryz.prog 12 #[.agg #[.int .i64 (n':Int),.slice a n c,.int .i64 sum,.slice a' n' c'],.agg #[.slice ap n' cap,.bool cp]] w fun e w'=>∃v,e = .returned (.tuple #[v,.int .i64 (mvE cp (n':Int) ls sum)]) ∧
   (mvE cp (n':Int) ls sum=0→MvOut w.heap.size w' n n' (ls.map (lineI p)) (cmS cp (n':Int) (lenV ls) sum) (movG cp p g) v)∧Below w.heap.size w w'∧TaskV v:=by
 obtain ⟨i0,hi,hz0,hz1,hz2⟩:=info_parts infoInt1
 obtain ⟨i2,hi',hz0',hz1',hz2'⟩:=info_parts infoRow
 have hP:=(perm_ok hpe).2
 have hpl:=hp.len
 have hgl:=h'.len
 have hll:=h.len
 have hn256:n'≤256:=by have:=G.glen;omega
 have hn128:n≤128:=by have:=G.lines;omega
 have HT:Hid (∀W,Below w.heap.size w W→Calls Tryz.prog 56 #[.agg #[.int .i64 (n':Int),.slice a n c,.int .i64 sum,.slice a' n' c']] W fun e w'=>e = .returned (.int .i64 0)∧Below W.heap.size W w'):=fun W hb=>by
  have:=task_c a n c ls (n':Int) sum a' n' c' g W (h.mono hb) hcap (h'.mono hb) hcap'
  rw[ht] at this
  exact this
 have HMV:=Lib.hid (fun W (hb:Below w.heap.size w W)=>cmove_c a n c ls sum a' n' c' ap cap p cp W (h.mono hb) (hp.mono hb) hpe)
 have HLE:=Lib.hid (fun W (hb:Below w.heap.size w W)=>length_c a n c ls (n':Int) sum a' n' c' W (h.mono hb))
 have HNU:Hid (∀(x:Int) W,0≤x∧x≤(n':Int)→Calls Tryz.prog 59 #[.agg #[.int .i64 (n':Int),.slice a n c,.int .i64 sum,.slice a' n' c'],.int .i64 x,.agg #[.slice ap n' cap,.bool cp]] W fun e w'=>e = .returned (.int .i64 (cgN cp (n':Int) x))∧Below W.heap.size W w'):=fun x W hx=>number_c _ _ _ a' n' c' ap n' cap cp x W hn256 hx
 have HRC:=Lib.hid h
 have HIC:=Lib.hid h'
 have HPC:=Lib.hid hp
 have HG:Hid (∀i,i<n'→0≤g[i]?.getD 0∧g[i]?.getD 0≤(n':Int)):=fun i hi=>G.num i (by omega)
 have HPN:Hid (∀k,k<n'→0≤p[k]?.getD 0∧p[k]?.getD 0<(n':Int)):=fun k hk=>by have:=hP.num k (by omega);rw[hpl] at this;exact this
 have HLN:Hid (∀k,k<n→1≤(ls[k]?.getD []).length∧(ls[k]?.getD []).length≤1000∧∀j,j<(ls[k]?.getD []).length→0≤(ls[k]?.getD [])[j]?.getD 0∧(ls[k]?.getD [])[j]?.getD 0<(n':Int)):=fun k hk=>by
  have hm:ls[k]?.getD []∈ls:=by rw[List.getElem?_eq_getElem (by omega)];exact List.getElem_mem _
  exact ⟨G.some _ hm,(G.lineLen hm).1,fun j hj=>G.mem _ hm j hj⟩
 have HLM:Hid (∀l,l∈ls→l.length≤1000):=fun l hl=>(G.lineLen hl).1
 have HS9:Hid (-1000000000≤sum∧sum≤1000000000∧0≤lenV ls∧lenV ls≤1000):=⟨by have:=G.sum1;omega,by have:=G.sum2;omega,by unfold lenV;omega,by
  unfold lenV
  by_cases h0:0<ls.length
  ·have:=(G.lineLen (l:=ls[0]?.getD []) (by rw[List.getElem?_eq_getElem h0];exact List.getElem_mem _)).1;omega
  ·rw[List.getElem?_eq_none (by omega)];decide⟩
 have HE:Hid (movG cp p g=movTo p (g.map (cgN cp (n':Int))) n'):=by unfold Hid movG movL;rw[List.length_map,hgl]
 have HM0:Hid ((List.replicate n' (0:Int))=movTo p (g.map (cgN cp (n':Int))) 0):=by unfold Hid;rw[movTo_zero,List.length_map,hgl]
 have HMS:Hid (∀k,k<n'→(movTo p (g.map (cgN cp (n':Int))) k).set (p[k]?.getD 0).toNat (cgN cp (n':Int) (g[k]?.getD 0))=movTo p (g.map (cgN cp (n':Int))) (k+1)):=fun k hk=>by rw[movTo_succ,map_get (by omega)]
 have HML:Hid (∀k,(movTo p (g.map (cgN cp (n':Int))) k).length=n'):=fun k=>by rw[movTo_len,List.length_map,hgl]
 have HVE:Hid (mvE cp (n':Int) ls sum=if (cp&&!levelB ls)=true then 2 else if (decide (cmS cp (n':Int) (lenV ls) sum<1)||decide (999999999<cmS cp (n':Int) (lenV ls) sum))=true then 3 else 0):=rfl
 have HSV:Hid (cmS cp (n':Int) (lenV ls) sum=if cp=true then lenV ls*((n':Int)+1) - sum else sum):=rfl
 have hns:=h.small
 clear h h' hp hpe hP hpl hgl hll ht G
 generalize mvE cp (n':Int) ls sum=ev at HVE ⊢
 generalize cmS cp (n':Int) (lenV ls) sum=sv at HVE HSV ⊢
 generalize movG cp p g=r at HE ⊢
 generalize movTo p (g.map (cgN cp (n':Int)))=M at HE HM0 HMS HML
 generalize lenV ls=lv at HLE HS9 HSV
 generalize levelB ls=lb at HMV HLE HVE
 go_enter Tryz.func12,Tryz.ntmps12
 go_upto_region 1 with fail
 have fsz:(((w.alloc (.cells #[.int .i64 (n':Int),.slice a n c,.int .i64 sum,.slice a' n' c'] 27)).alloc (.cells #[.slice ap n' cap,.bool cp] 29)).alloc (.cells #[.int .i64 0,.slice none 0 0,.int .i64 0,.slice none 0 0] 27)).heap.size=w.heap.size+3:=by simp only[World.size_alloc] <;> omega
 have fB:Below w.heap.size w (((w.alloc (.cells #[.int .i64 (n':Int),.slice a n c,.int .i64 sum,.slice a' n' c'] 27)).alloc (.cells #[.slice ap n' cap,.bool cp] 29)).alloc (.cells #[.int .i64 0,.slice none 0 0,.int .i64 0,.slice none 0 0] 27)):=(((Below.refl _ _).alloc (Nat.le_refl _) _).alloc (by simp only[World.size_alloc];omega) _).alloc (by simp only[World.size_alloc];omega) _
 have fq0:(((w.alloc (.cells #[.int .i64 (n':Int),.slice a n c,.int .i64 sum,.slice a' n' c'] 27)).alloc (.cells #[.slice ap n' cap,.bool cp] 29)).alloc (.cells #[.int .i64 0,.slice none 0 0,.int .i64 0,.slice none 0 0] 27)).heap[w.heap.size]?=some (.cells #[.int .i64 (n':Int),.slice a n c,.int .i64 sum,.slice a' n' c'] 27 (0,0)):=by have h:=World.alloc_heap_new w (.cells #[.int .i64 (n':Int),.slice a n c,.int .i64 sum,.slice a' n' c'] 27);exact (Below.heap_alloc _ _ _ (by simp only[World.size_alloc];omega)).trans ((Below.heap_alloc _ _ _ (by simp only[World.size_alloc];omega)).trans (h))
 have fq1:(((w.alloc (.cells #[.int .i64 (n':Int),.slice a n c,.int .i64 sum,.slice a' n' c'] 27)).alloc (.cells #[.slice ap n' cap,.bool cp] 29)).alloc (.cells #[.int .i64 0,.slice none 0 0,.int .i64 0,.slice none 0 0] 27)).heap[w.heap.size+1]?=some (.cells #[.slice ap n' cap,.bool cp] 29 (0,0)):=by have h:=World.alloc_heap_new (w.alloc (.cells #[.int .i64 (n':Int),.slice a n c,.int .i64 sum,.slice a' n' c'] 27)) (.cells #[.slice ap n' cap,.bool cp] 29);simp only[World.size_alloc] at h;exact (Below.heap_alloc _ _ _ (by simp only[World.size_alloc];omega)).trans (h)
 have fq2:(((w.alloc (.cells #[.int .i64 (n':Int),.slice a n c,.int .i64 sum,.slice a' n' c'] 27)).alloc (.cells #[.slice ap n' cap,.bool cp] 29)).alloc (.cells #[.int .i64 0,.slice none 0 0,.int .i64 0,.slice none 0 0] 27)).heap[w.heap.size+1+1]?=some (.cells #[.int .i64 0,.slice none 0 0,.int .i64 0,.slice none 0 0] 27 (0,0)):=by have h:=World.alloc_heap_new ((w.alloc (.cells #[.int .i64 (n':Int),.slice a n c,.int .i64 sum,.slice a' n' c'] 27)).alloc (.cells #[.slice ap n' cap,.bool cp] 29)) (.cells #[.int .i64 0,.slice none 0 0,.int .i64 0,.slice none 0 0] 27);simp only[World.size_alloc] at h;exact h
 generalize (((w.alloc (.cells #[.int .i64 (n':Int),.slice a n c,.int .i64 sum,.slice a' n' c'] 27)).alloc (.cells #[.slice ap n' cap,.bool cp] 29)).alloc (.cells #[.int .i64 0,.slice none 0 0,.int .i64 0,.slice none 0 0] 27))=W0 at fsz fB fq0 fq1 fq2 ⊢
 have HX:=Lib.hid (fun W (hb:Below W0.heap.size W0 W)=>l4 (keepq hb fq0))
 have HY:=Lib.hid (fun W (hb:Below W0.heap.size W0 W)=>(And.intro (q_cell (keepq hb fq1) 0) (And.intro (q_cell (keepq hb fq1) 1) (q_lt (keepq hb fq1))):W.cell? ⟨w.heap.size+1,0,none⟩=some (.slice ap n' cap)∧W.cell? ⟨w.heap.size+1,1,none⟩=some (.bool cp)∧w.heap.size+1<W.heap.size))
 have HR:=Lib.hid fq2
 clear fq0 fq1 fq2
 obtain ⟨x0,x1,x2,x3,xl⟩:=HX.out _ (Below.refl _ _)
 go_wp2_with fail
 refine (HT.out _ fB).mono ?_
 rintro _ w1 ⟨rfl,hb1⟩
 have hcur:=hb1
 clear x0 x1 x2 x3 xl
 obtain ⟨x0,x1,x2,x3,xl⟩:=HX.out _ hcur
 obtain ⟨y0,y1,yl⟩:=HY.out _ hcur
 go_wp2_with fail
 refine (HMV.out _ (keep_trans fB hcur)).mono ?_
 rintro _ w2 ⟨rfl,hb2⟩
 replace hcur:=keep_trans hcur hb2
 clear x0 x1 x2 x3 xl y0 y1 yl
 obtain ⟨x0,x1,x2,x3,xl⟩:=HX.out _ hcur
 cases hcl:(cp&&!lb) with
 | true =>
  rw[hcl,if_pos rfl] at HVE
  clear hcl
  have hwt:whenV true 2=2:=rfl
  rw[hwt]
  have hq2:=keepq hcur HR.out
  have r0:=q_cell hq2 0
  have r1:=q_cell hq2 1
  have r2:=q_cell hq2 2
  have r3:=q_cell hq2 3
  have rf0:=q_free hq2 0
  have rf1:=q_free hq2 1
  have rf2:=q_free hq2 2
  have rf3:=q_free hq2 3
  have HR2:=Lib.hid hq2
  clear hq2
  go_wp2_with fail
  have rr:=q_set (i:=3) (q_set (i:=2) (q_set (i:=1) (q_set (i:=0) HR2.out (.int .i64 0)) (.slice none 0 0)) (.int .i64 0)) (.slice none 0 0)
  have z0:=q_cell rr 0
  have z1:=q_cell rr 1
  have z2:=q_cell rr 2
  have z3:=q_cell rr 3
  refine bodyPost_ret (v := .tuple #[.agg #[.int .i64 0,.slice none 0 0,.int .i64 0,.slice none 0 0],.int .i64 2]) ?_ rfl ⟨.agg #[.int .i64 0,.slice none 0 0,.int .i64 0,.slice none 0 0],by rw[HVE.out],fun e=>absurd (HVE.out.symm.trans e) (by decide),((((keep_trans fB hcur).setCell (p:=⟨w.heap.size+1+1,0,none⟩) (by show w.heap.size≤w.heap.size+1+1;omega) (.int .i64 0)).setCell (p:=⟨w.heap.size+1+1,1,none⟩) (by show w.heap.size≤w.heap.size+1+1;omega) (.slice none 0 0)).setCell (p:=⟨w.heap.size+1+1,2,none⟩) (by show w.heap.size≤w.heap.size+1+1;omega) (.int .i64 0)).setCell (p:=⟨w.heap.size+1+1,3,none⟩) (by show w.heap.size≤w.heap.size+1+1;omega) (.slice none 0 0),⟨_,_,_,_,_,_,_,_,rfl⟩⟩
  simp[results,Tryz.f12,go_sem,z0,z1,z2,z3]
 | false =>
  rw[hcl,if_neg (by decide)] at HVE
  clear hcl
  have hwt:whenV false 2=0:=rfl
  rw[hwt]
  clear hwt
  go_upto_region 7 with fail
  refine wp_region_fork2 (fun w'=>∃u,w'=over (w2) u) [12] [0,1,2,3,4,5,6,7,8] 9 11 [(0,10),(1,11),(2,12)] [(1,9),(0,10),(2,12)] (by kernel_rfl) (by kernel_rfl) (by exact ⟨_,below_over (by repeat (first|assumption|exact Below.refl _ _|refine keep_drew ?_|refine keep_alloc ?_ _|refine keep_trans ?_ (by assumption)))⟩) ?_ ?_
  all_goals dsimp only[List.map,List.cons_append,List.nil_append,pickOps,nthOp]
  all_goals repeat (first|(refine wpS_skip rfl (fun K hK=>?_);go_big_quiet_op;refine hK _ ?_;clear hK K)|(refine wpS_quiet rfl rfl (fun K hK=>?_);go_big_quiet_op;refine hK _ ?_;clear hK K)|(refine wpS_loud ?_;go_wp2_with (first|(refine wpList_make_full _ rfl _ _ 25 rfl w2.heap.size 3 i0 (.int .i64 0) 1 Tryz.underlying25 hi hz0 hz1 _ _ _ _ n' rfl rfl (by simp) (by simp) (by rw[hz2];omega) (by unfold maxLen;omega) (by first|exact Nat.le_refl _|simp) ?_;intro W4 hown4 hgr4;have hB4:Below w2.heap.size w2 W4:=(by first|exact ((Below.refl _ w2).drew).grown hgr4 (Nat.le_refl _) (fun k e=>by cases e)|exact (((Below.refl _ w2).drew).alloc (Nat.le_refl _) _).grown hgr4 (by simp) (fun k e=>by cases e))));refine ⟨?_,?_⟩;focus (exact ⟨_,below_over (by repeat (first|assumption|exact Below.refl _ _|refine keep_drew ?_|refine keep_alloc ?_ _|refine keep_trans ?_ (by assumption)))⟩)))
  all_goals refine wpS_late _ _ _ rfl ?_
  all_goals dsimp only[List.map]
  focus
   have q0:=World.alloc_heap_new W4 (.cells #[.int .i64 0,.slice none 0 0,.int .i64 0,.slice none 0 0] 27)
   have hown0:(W4.alloc (.cells #[.int .i64 0,.slice none 0 0,.int .i64 0,.slice none 0 0] 27)).ownsRow w2.heap.size 3 1 (.slice (some ⟨w2.heap.size,0,none⟩) n' n') n' ((M 0).map (Value.int .i64)):=by
    have h1:=hown4.alloc (.cells #[.int .i64 0,.slice none 0 0,.int .i64 0,.slice none 0 0] 27)
    rw[made_zero,HM0.out] at h1
    exact h1
   have hb0:Below w2.heap.size w2 (W4.alloc (.cells #[.int .i64 0,.slice none 0 0,.int .i64 0,.slice none 0 0] 27)):=hB4.alloc hB4.size _
   have hlt:w2.heap.size<W4.heap.size:=(hown4.lt w2.heap.size rfl).2
   generalize (W4.alloc (.cells #[.int .i64 0,.slice none 0 0,.int .i64 0,.slice none 0 0] 27))=W8 at q0 hown0 hb0 ⊢
   generalize W4.heap.size=b8 at q0 hlt ⊢
   obtain ⟨bg,hbg⟩:∃bg,bg=w2.heap.size:=⟨_,rfl⟩
   rw[← hbg]
   replace hown0:W8.ownsRow w2.heap.size 3 1 (.slice (some ⟨bg,0,none⟩) n' n') n' ((M 0).map (Value.int .i64)):=by rw[hbg];exact hown0
   have hne:bg≠b8:=by omega
   have h8:w2.heap.size≤b8:=by omega
   have hg:w2.heap.size≤bg:=by omega
   clear hbg hB4 hgr4 hown4 hlt
  rotate_left
  focus
   have hB5:=(Below.refl (w2.drew.alloc (.cells #[.int .i64 0,.slice none 0 0,.int .i64 0,.slice none 0 0] 27)).heap.size (w2.drew.alloc (.cells #[.int .i64 0,.slice none 0 0,.int .i64 0,.slice none 0 0] 27))).grown hgr4 (Nat.le_refl _) (fun k e=>by cases e)
   have q0:W4.heap[w2.heap.size]?=some (.cells #[.int .i64 0,.slice none 0 0,.int .i64 0,.slice none 0 0] 27 (0,0)):=keepq hB5 (World.alloc_heap_new w2.drew (.cells #[.int .i64 0,.slice none 0 0,.int .i64 0,.slice none 0 0] 27))
   have hown0:W4.ownsRow w2.heap.size 3 1 (.slice (some ⟨w2.heap.size+1,0,none⟩) n' n') n' ((M 0).map (Value.int .i64)):=by
    have h1:=hown4
    rw[made_zero,HM0.out] at h1
    simpa using h1
   have hb0:=hB4
   obtain ⟨b8,hb8⟩:∃b8,b8=w2.heap.size:=⟨_,rfl⟩
   rw[← hb8]
   have hne:b8+1≠b8:=by omega
   have h8:w2.heap.size≤b8:=by omega
   have hg:w2.heap.size≤b8+1:=by omega
   replace q0:W4.heap[b8]?=some (.cells #[.int .i64 0,.slice none 0 0,.int .i64 0,.slice none 0 0] 27 (0,0)):=by rw[hb8];exact q0
   replace hown0:W4.ownsRow w2.heap.size 3 1 (.slice (some ⟨b8+1,0,none⟩) n' n') n' ((M 0).map (Value.int .i64)):=by rw[hb8];exact hown0
   clear hb8 hB4 hB5 hgr4 hown4
   generalize b8+1=bg at hown0 hne hg ⊢
   obtain ⟨W8,hW8⟩:∃W8,W8=W4:=⟨_,rfl⟩
   rw[← hW8] at q0 hown0 hb0 ⊢
   clear hW8
  all_goals
   have hlo:=hcur.size
   have r0:=q_cell q0 0
   have rf0:=q_free q0 0
   have r1:=q_cell q0 1
   have rf1:=q_free q0 1
   have r2:=q_cell q0 2
   have rf2:=q_free q0 2
   have r3:=q_cell q0 3
   have rf3:=q_free q0 3
   have rl:=q_lt q0
   go_wp2_with fail
   refine NoPanic.normal ?_
   have q9:=q_set (i:=3) (q_set (i:=2) (q_set (i:=1) (q_set (i:=0) q0 (.int .i64 (n':Int))) (.slice none 0 0)) (.int .i64 sum)) (.slice (some ⟨bg,0,none⟩) n' n')
   have hb9:=(((hb0.setCell (p:=⟨b8,0,none⟩) h8 (.int .i64 (n':Int))).setCell (p:=⟨b8,1,none⟩) h8 (.slice none 0 0)).setCell (p:=⟨b8,2,none⟩) h8 (.int .i64 sum)).setCell (p:=⟨b8,3,none⟩) h8 (.slice (some ⟨bg,0,none⟩) n' n')
   have hown9:=owns_keep (w':=((((W8.setCell ⟨b8,0,none⟩ (.int .i64 (n':Int))).setCell ⟨b8,1,none⟩ (.slice none 0 0)).setCell ⟨b8,2,none⟩ (.int .i64 sum)).setCell ⟨b8,3,none⟩ (.slice (some ⟨bg,0,none⟩) n' n'))) hown0 (fun k e _=>by
    have e1:bg=k:=by simpa [Value.ownBlock] using e
    subst e1
    exact (((Below.heap_setCell _ _ _ _ hne).trans (Below.heap_setCell _ _ _ _ hne)).trans (Below.heap_setCell _ _ _ _ hne)).trans (Below.heap_setCell _ _ _ _ hne))
   generalize ((((W8.setCell ⟨b8,0,none⟩ (.int .i64 (n':Int))).setCell ⟨b8,1,none⟩ (.slice none 0 0)).setCell ⟨b8,2,none⟩ (.int .i64 sum)).setCell ⟨b8,3,none⟩ (.slice (some ⟨bg,0,none⟩) n' n'))=W9 at q9 hb9 hown9 ⊢
   clear q0 hown0 hb0 x0 x1 x2 x3 xl
   have hcur9:=keep_trans hcur hb9
   have HQ9:=Lib.hid q9
   have HO9:=Lib.hid hown9
   have hb8l:W0.heap.size≤b8:=Nat.le_trans hlo h8
   have hbgl:W0.heap.size≤bg:=Nat.le_trans hlo hg
   obtain ⟨x0,x1,x2,x3,xl⟩:=HX.out _ hcur9
   have hq9l:b8<W9.heap.size:=q_lt q9
   clear r0 rf0 r1 rf1 r2 rf2 r3 rf3 rl hown9
   go_wp2_with fail
   clear x0 x1 x2 x3 xl q9
   go_loopw [10,11,13,46,52] (fun _ _ _ iv _ wr=>∃(k:Nat) (v:Value) (pre:List (Value × List Int)),k≤n∧iv = .int .i64 k∧wr.heap[b8]?=some (.cells #[.int .i64 (n':Int),v,.int .i64 sum,.slice (some ⟨bg,0,none⟩) n' n'] 27 (0,0))∧RowsI wr (fun _=>False) W9.heap.size v pre∧Hid (pre.map Prod.snd=(ls.take k).map (lineI p))∧pre.length=k∧Stays (fun k=>k=b8) W9 wr) (fun _ _ _ iv _ _=>n - (intOf iv).toNat)
   case atStart=>exact ⟨0,.slice none 0 0,[],by omega,rfl,HQ9.out,RowsI.nil _ _ _,rfl,rfl,Stays.refl _ _⟩
   case round =>
    obtain ⟨k,v,pre,hk,rfl,hq,hrows,hpm,hpk,hst⟩:=hrel
    obtain ⟨wo,rfl⟩:∃wo:World,wo=wr:=⟨wr,rfl⟩
    have hbr:Below W0.heap.size W9 wo:=hst.below hcur9.size (fun k e=>by rw[e];exact hb8l)
    have hcr:=hcur9.trans hbr
    have hBr:=keep_trans fB hcr
    obtain ⟨x0,x1,x2,x3,xl⟩:=HX.out _ hcr
    obtain ⟨y0,y1,yl⟩:=HY.out _ hcr
    by_cases hlt:k<n
    ·have hki:(k:Int)<(n:Int):=by omega
     obtain ⟨b5,o5,al,nl,cl,rfl,hb5,hc5,hil,_⟩:=(HRC.out.mono hBr).2 k hlt
     have hln:=HLN.out k hlt
     have HTK:Hid ((ls.take (k+1)).map (lineI p)=(ls.take k).map (lineI p)++[lineI p (ls[k]?.getD [])]):=by unfold Hid;rw[take_snoc ls [] k (by rw[HRC.out.len];exact hlt),List.map_append];rfl
     have HLI:Hid (lineI p (ls[k]?.getD [])=srt ((ls[k]?.getD []).map fun c=>p[c.toNat]?.getD 0)):=rfl
     generalize ls[k]?.getD []=l at hil hln HTK HLI
     have hll:=hil.len
     rw[hll] at hln
     have HLJ:=Lib.hid hln.2.2
     have hn1:=hln.1
     have hn2:=hln.2.1
     have hnls:=hil.small
     have HIL:=Lib.hid hil
     have HPS:Hid (∀j,j<nl→(((l.take (j+1)).map fun c=>p[c.toNat]?.getD 0).map (Value.int .i64))=(((l.take j).map fun c=>p[c.toNat]?.getD 0).map (Value.int .i64))++[.int .i64 (p[(l[j]?.getD 0).toNat]?.getD 0)]):=fun j hj=>by
      rw[take_snoc l 0 j (by omega),List.map_append,List.map_append];rfl
     have HPE:Hid ((((l.take nl).map fun c=>p[c.toNat]?.getD 0).map (Value.int .i64))=(l.map fun c=>p[c.toNat]?.getD 0).map (Value.int .i64)):=by unfold Hid;rw[← hll,List.take_length]
     have HPZ:Hid (((l.take 0).map fun c=>p[c.toNat]?.getD 0).map (Value.int .i64)=[]):=rfl
     generalize hTT:(fun j=>((l.take j).map fun c=>p[c.toNat]?.getD 0).map (Value.int .i64))=TT
     have HTT:Hid (∀j,((l.take j).map fun c=>p[c.toNat]?.getD 0).map (Value.int .i64)=TT j):=fun j=>by rw[← hTT]
     simp only[HTT.out] at HPS HPE HPZ
     clear HTT hTT
     have HPL:Hid ((l.map fun c=>p[c.toNat]?.getD 0).length=nl):=by unfold Hid;rw[List.length_map,hll]
     have HLL:Hid ((lineI p l).length=nl):=by unfold Hid;rw[lineI_len,hll]
     clear hil hln hll
     have HROWS:=Lib.hid hrows
     have HQR:=Lib.hid hq
     have HPK:=Lib.hid hpk
     have hb8r:=q_lt hq
     clear hrows hq hpk x0 x1 x2 x3 xl
     go_wp2_with fail
     clear hc5 y0 y1 yl
     go_loopw [11,13,52] (fun ov _ iv wr=>∃j:Nat,j≤nl∧iv = .int .i64 j∧wr.ownsRow wo.heap.size 3 1 ov j (TT j)∧Below wo.heap.size wo wr) (fun _ _ iv _=>nl - (intOf iv).toNat)
     case atStart=>exact ⟨0,by omega,rfl,by rw[HPZ.out];exact World.ownsRow_nil _ _ _ _,Below.refl _ _⟩
     case round =>
      obtain ⟨j,hj,rfl,hown,hbi⟩:=hrel
      obtain ⟨ao,co,e9⟩:=owns_shape hown
      subst e9
      have hszi:=hbi.size
      by_cases hjl:j<nl
      ·have hji:(j:Int)<(nl:Int):=by omega
       have hci:=keep_trans hcr hbi
       have hBi:=keep_trans fB hci
       obtain ⟨y0,y1,yl⟩:=HY.out _ hci
       obtain ⟨b6,o6,rfl,hb6,hc6⟩:=(HIL.out.mono hbi).2 j hjl
       have hlj:=HLJ.out j hjl
       have HPj:=Lib.hid (HPS.out j hjl)
       obtain ⟨q,hq⟩:=Int.eq_ofNat_of_zero_le hlj.1
       rw[hq] at hlj hc6 HPj
       clear hq
       rw[Int.toNat_natCast] at HPj
       have hqn:q<n':=by omega
       have hqi:(q:Int)<(n':Int):=by omega
       obtain ⟨b7,o7,rfl,hb7,hc7⟩:=(HPC.out.mono hBi).2 q hqn
       have hjs:j≤1000:=by omega
       generalize p[q]?.getD 0=s at hc7 HPj
       go_wp2_with (first|(at_builtin;refine wpList_append_own _ rfl _ _ 25 rfl wo.heap.size 3 i0 (.int .i64 0) 1 8 Tryz.underlying25 hi hz0 hz1 hz2 rfl (by decide) _ _ _ rfl (hown.alloc _) ⟨wr.heap.size,0,none⟩ 1 1 [.int .i64 s] rfl rfl (cell_one_new _ _ _) (by simp[Value.oneCell']) (by unfold maxLen;omega) (by omega) (by simp;omega) ?_))
       intro v5 w5 hown5 hgrow _
       have hs5:=grow_stays hgrow
       have hb5:Below wo.heap.size wo w5:=hbi.trans (hs5.below hszi (fun k e=>owns_ge hown e))
       have hown6:=hown5
       rw[← HPj.out] at hown6
       have HO:=Lib.hid hown6
       obtain ⟨a5,c5,e5⟩:=owns_shape hown6
       subst e5
       clear hown5 hown6 hgrow hs5 hown hc6 hc7 y0 y1 yl
       go_wp2_with fail
       go_roundw
       case rel=>exact ⟨j+1,by omega,by go_num,HO.out,hb5⟩
       case measure=>simp[intOf];omega
      ·have e:j=nl:=by omega
       subst e
       rw[HPE.out] at hown
       have HSO:Hid (Calls Tryz.prog 58 #[.slice ao j co] wr fun e w'=>e = .returned (.tuple #[])∧w'.ownsRow wo.heap.size 3 1 (.slice ao j co) j ((lineI p l).map (Value.int .i64))∧Stays (fun k=>(Value.slice ao j co).ownBlock=some k) wr w'):=by
        have h1:=isort_c wo.heap.size (.slice ao j co) (l.map fun c=>p[c.toNat]?.getD 0) wr (by rw[HPL.out];exact hown) (by rw[HPL.out];exact hn1) (by rw[HPL.out];omega)
        rw[HPL.out,← HLI.out] at h1
        exact h1
       have HGE:Hid (∀k,(Value.slice ao j co).ownBlock=some k→wo.heap.size≤k):=fun k e=>owns_ge hown e
       clear hown
       go_wp2_with fail
       refine HSO.out.mono ?_
       rintro _ w6 ⟨rfl,hown6,hs6⟩
       have hb6:Below wo.heap.size wo w6:=hbi.trans (hs6.below hszi (fun k e=>HGE.out k e))
       have hrows6:RowsI w6 (fun _=>False) W9.heap.size v pre:=HROWS.out.keep ((Below.stays hb6 _).toL 0) (fun _ e=>e.elim)
       obtain ⟨av,cv,e9⟩:=owns_shape hrows6.1
       subst e9
       have hq6:=keepq hb6 HQR.out
       have z1:=q_cell hq6 1
       have zf1:=q_free hq6 1
       have zl:=q_lt hq6
       have hpk:=HPK.out
       have hpl:pre.length≤128:=by omega
       have hvb:∀k,(Value.slice av pre.length cv).ownBlock=some k→k<wo.heap.size∧W9.heap.size≤k:=fun k e=>by have h1:=(HROWS.out.1.lt k e).2;have h2:=(HROWS.out.1.lt k e).1;omega
       have HVB:=Lib.hid hvb
       have HR6:=Lib.hid hrows6
       have HOW6:=Lib.hid hown6
       have hown9:=owns_base hrows6.1 (Nat.zero_le _)
       clear hs6 hown6 hpk hvb
       go_wp2_with (first|(at_builtin;refine wpList_append_own2 _ rfl _ _ 22 rfl 25 i2 (.slice none 0 0) 1 24 Tryz.underlying22 hi' hz0' hz1' hz2' rfl (by decide) _ _ _ rfl (hown9.alloc _) ⟨w6.heap.size,0,none⟩ 1 1 [.slice ao j co] rfl rfl (cell_one_new _ _ _) (by simp[Value.oneCell']) (by unfold maxLen;omega) (by omega) ?_))
       intro v7 w7 hown7z hgrow7 hnew7
       have hst7:=grow_stays hgrow7
       have hown7:=owns_up (B:=W9.heap.size) hown7z (fun k e=>by
        rcases hnew7 k e with h1|h1
        ·exact (HVB.out k h1).2
        ·have h2:=hst.size;have h3:=hb6.size;first|omega|(simp at h1;omega))
       clear hown7z
       have hq7:=hst7.q hq6 (fun e=>by have h1:=(HVB.out b8 e).2;have h2:=hq9l;omega)
       have hrow7:RowsI w7 (fun _=>False) W9.heap.size v7 (pre++[(Value.slice ao j co,lineI p l)]):=HR6.out.append (fun _ e=>e.elim) (by rw[HLL.out];exact owns_base HOW6.out hst.size) (fun k e=>⟨fun e=>e.elim,fun e2=>by have h1:=(HVB.out k e2).1;have h2:=HGE.out k e;omega⟩) hst7 hown7 (fun k e=>by
        rcases hnew7 k e with h1|h1
        ·exact .inl h1
        ·right;first|omega|(simp at h1;omega))
       have hst67:Stays (fun k=>k=b8) W9 w7:=(hst.trans (Below.stays hb6 (fun _=>False)) (fun i e=>e.elim)).trans hst7 (fun i e => .inr (HVB.out i e).2)
       obtain ⟨a7,c7,e7⟩:=owns_shape hown7
       subst e7
       have HR7:=Lib.hid hrow7
       have z71:=q_cell hq7 1
       have zf71:=q_free hq7 1
       have zl7:=q_lt hq7
       have HQ7:=Lib.hid hq7
       have HPM:=Lib.hid (show (pre++[(Value.slice ao j co,lineI p l)]).map Prod.snd=(ls.take (k+1)).map (lineI p) by rw[HTK.out,List.map_append,hpm.out];rfl)
       have HPN7:Hid ((pre++[(Value.slice ao j co,lineI p l)]).length=k+1):=by unfold Hid;rw[List.length_append,HPK.out];rfl
       clear hrow7 hown7 hgrow7 hnew7 hst7 hq7 hq6 z1 zf1 zl hown9
       go_wp2_with fail
       go_roundw
       case rel=>exact ⟨k+1,_,_,by omega,by go_num,q_set (i:=1) HQ7.out _,HR7.out.setCell hq9l _,HPM.out,HPN7.out,hst67.trans (Stays.setCell (S:=fun k=>k=b8) w7 (p:=⟨b8,1,none⟩) rfl _) (fun _ e => .inl e)⟩
       case measure=>simp[intOf];omega
    ·have e:k=n:=by omega
     subst e
     have hown10:wo.ownsRow w2.heap.size 3 1 (.slice (some ⟨bg,0,none⟩) n' n') n' ((M 0).map (Value.int .i64)):=owns_keep HO9.out (fun k e hk=>by
      have e1:bg=k:=by simpa [Value.ownBlock] using e
      subst e1
      exact hst.block bg hk hne)
     have HRM:Hid (∀x,x∈pre→x.2.length≤1000):=fun x hx=>by
      have h1:x.2∈pre.map Prod.snd:=List.mem_map.2 ⟨x,hx,rfl⟩
      rw[hpm.out] at h1
      obtain ⟨l,hl,e⟩:=List.mem_map.1 h1
      rw[← e,lineI_len]
      exact HLM.out l (List.mem_of_mem_take hl)
     have HRS:Hid (pre.map Prod.snd=ls.map (lineI p)):=by
      unfold Hid
      rw[hpm.out,← HRC.out.len,List.take_length]
     obtain ⟨av,cv,e9,_,_⟩:=hrows.rc (by omega) (fun x hx=>by have:=HRM.out x hx;omega)
     rw[hpk] at e9
     subst e9
     have HRO:=Lib.hid (hrows.ofL (M:=fun k=>k=bg) (fun k e=>by rw[e];exact (HO9.out.lt bg rfl).2))
     have HPK:=Lib.hid hpk
     have HQ10:=Lib.hid hq
     clear hrows hpk
     have hb8r:=q_lt hq
     have hcz:=hcr.size
     clear hq y0 y1 yl
     go_wp2_with fail
     clear x0 x1 x2 x3 xl
     go_loopw [14,15,79] (fun _ _ iv wr=>∃j:Nat,j≤n'∧iv = .int .i64 j∧wr.ownsRow w2.heap.size 3 1 (.slice (some ⟨bg,0,none⟩) n' n') n' ((M j).map (Value.int .i64))∧Stays (fun k=>k=bg) wo wr) (fun _ _ iv _=>n' - (intOf iv).toNat)
     case atStart=>exact ⟨0,by omega,rfl,hown10,Stays.refl _ _⟩
     case round =>
      clear hown10
      obtain ⟨j,hj,rfl,hown,hsj⟩:=hrel
      have hbj:Below W0.heap.size wo wr:=hsj.below hcz (fun k e=>by rw[e];exact hbgl)
      have hcj:=hcr.trans hbj
      have hBj:=keep_trans fB hcj
      obtain ⟨x0,x1,x2,x3,xl⟩:=HX.out _ hcj
      obtain ⟨y0,y1,yl⟩:=HY.out _ hcj
      have hqj:=hsj.q HQ10.out (fun e=>hne e.symm)
      by_cases hjl:j<n'
      ·have hji:(j:Int)<(n':Int):=by omega
       obtain ⟨b5,o5,rfl,hb5,hc5⟩:=(HIC.out.mono hBj).2 j hjl
       obtain ⟨b6,o6,rfl,hb6,hc6⟩:=(HPC.out.mono hBj).2 j hjl
       have HMj:=Lib.hid (HMS.out j hjl)
       have hpj:=HPN.out j hjl
       obtain ⟨q,hqq⟩:=Int.eq_ofNat_of_zero_le hpj.1
       rw[hqq] at hpj hc6 HMj
       clear hqq
       rw[Int.toNat_natCast] at HMj
       have hqn:q<n':=by omega
       have hqi:(q:Int)<(n':Int):=by omega
       have HNX:=Lib.hid (fun W=>HNU.out (g[j]?.getD 0) W (HG.out j hjl))
       generalize g[j]?.getD 0=x at hc5 HMj HNX
       generalize cgN cp (n':Int) x=y at HNX HMj
       have z3:=q_cell hqj 3
       have zl:=q_lt hqj
       obtain ⟨g9,c9,x9,e9,hx9,hcell9,hfr9,hlt9,hn9⟩:=owns_free (owns_base hown (Nat.zero_le _)) q hqn
       simp only[Value.slice.injEq,Option.some.injEq,Addr.mk.injEq,true_and,and_true] at e9
       obtain ⟨e9,hcap9⟩:=e9
       subst e9
       have HSO:Hid (∀W,Below wr.heap.size wr W→(W.setCell ⟨bg,q,none⟩ (.int .i64 y)).ownsRow w2.heap.size 3 1 (.slice (some ⟨bg,0,none⟩) n' n') n' ((M (j+1)).map (Value.int .i64))):=fun W hb=>by
        have h1:=owns_set (owns_keep (w':=W) hown (fun k e hk=>hb.block k hk)) q (.int .i64 y)
        rw[← List.map_set,HMj.out] at h1
        exact h1
       have HSB:Hid (∀W u,Below wr.heap.size wr W→Stays (fun k=>k=bg) wo (W.setCell ⟨bg,q,none⟩ u)):=fun W u hb=>(hsj.trans (Below.stays hb (fun _=>False)) (fun _ e=>e.elim)).trans (Stays.setCell (S:=fun k=>k=bg) W (p:=⟨bg,q,none⟩) rfl _) (fun _ e => .inl e)
       clear hx9 hcap9 hown hqj
       go_upto_region 23 with fail
       refine wp_region_S (fun w'=>∃u,w'=over (wr) u) [12] [(0,0),(0,1),(0,2),(0,3),(0,4),(0,5),(0,6),(0,7),(0,8),(0,9),(1,10),(0,11),(2,12)] (by kernel_rfl) (by kernel_rfl) (by exact ⟨_,below_over (by repeat (first|assumption|exact Below.refl _ _|refine keep_drew ?_|refine keep_alloc ?_ _|refine keep_trans ?_ (by assumption)))⟩) ?_
       dsimp only[pickOps,nthOp]
       repeat (first|(refine wpS_skip rfl (fun K hK=>?_);go_big_quiet_op;refine hK _ ?_;clear hK K)|(refine wpS_quiet rfl rfl (fun K hK=>?_);go_big_quiet_op;refine hK _ ?_;clear hK K)|(refine wpS_loud ?_;go_wp2_with ((go_at_call 59;refine (HNX.out _).mono ?_;rintro _ w8 ⟨rfl,hb8⟩;have hbx:=keep_trans (keep_drew (Below.refl wr.heap.size wr)) hb8;have c8:=((bcell hbx).1 bg q hlt9).trans hcell9;have f8:=((bcell hbx).2 bg q hlt9).trans hfr9;have l8:=Nat.lt_of_lt_of_le hlt9 hbx.size));refine ⟨?_,?_⟩;focus (exact ⟨_,below_over (by repeat (first|assumption|exact Below.refl _ _|refine keep_drew ?_|refine keep_alloc ?_ _|refine keep_trans ?_ (by assumption)))⟩)))
       refine wpS_late _ _ _ rfl ?_
       dsimp only[List.map]
       go_wp2_with ((go_at_call 59;refine (HNX.out _).mono ?_;rintro _ w8 ⟨rfl,hb8⟩;have hbx:=keep_trans (keep_drew (Below.refl wr.heap.size wr)) hb8;have c8:=((bcell hbx).1 bg q hlt9).trans hcell9;have f8:=((bcell hbx).2 bg q hlt9).trans hfr9;have l8:=Nat.lt_of_lt_of_le hlt9 hbx.size))
       refine NoPanic.normal ?_
       go_wp2_with fail
       go_roundw
       case rel=>exact ⟨j+1,by omega,by go_num,HSO.out _ hbx,HSB.out _ _ hbx⟩
       case measure=>simp[intOf];omega
      ·have e:j=n':=by omega
       subst e
       rw[← HE.out] at hown
       have hic:IC wr (some ⟨bg,0,none⟩) j r:=by
        have hrl:r.length=j:=by rw[HE.out];exact HML.out j
        have h1:wr.ownsRow w2.heap.size 3 1 (.slice (some ⟨bg,0,none⟩) r.length j) r.length (r.map (Value.int .i64)):=by rw[hrl];exact hown
        have h2:=(IC.of_owns h1 (by omega)).1
        rw[hrl] at h2
        exact h2
       have HICR:=Lib.hid hic
       have HRJ:=Lib.hid (HRO.out.keep (M':=fun _=>False) (hsj.toL 0) (fun _ e=>e.elim))
       have HQJ:=Lib.hid hqj
       have HRZ:=Lib.hid (keepq hcj HR.out)
       have hbRl:w.heap.size+1+1<W0.heap.size:=q_lt HR.out
       have HB:=Lib.hid hBj
       clear hown hic hqj
       cases cp with
       | false =>
        obtain rfl:sv=sum:=HSV.out
        have z0:=q_cell HQJ.out 0
        have z1:=q_cell HQJ.out 1
        have z2:=q_cell HQJ.out 2
        have z3:=q_cell HQJ.out 3
        have zl:=q_lt HQJ.out
        have r0:=q_cell HRZ.out 0
        have r1:=q_cell HRZ.out 1
        have r2:=q_cell HRZ.out 2
        have r3:=q_cell HRZ.out 3
        have rf0:=q_free HRZ.out 0
        have rf1:=q_free HRZ.out 1
        have rf2:=q_free HRZ.out 2
        have rf3:=q_free HRZ.out 3
        have rl:=q_lt HRZ.out
        by_cases hv1:sv<1
        ·have hd1:decide (sv<1)=true:=decide_eq_true hv1
         have HV3:Hid (ev=3):=by unfold Hid;rw[HVE.out,hd1];rfl
         go_wp2_with fail
         have rr:=q_set (i:=3) (q_set (i:=2) (q_set (i:=1) (q_set (i:=0) HRZ.out (.int .i64 0)) (.slice none 0 0)) (.int .i64 0)) (.slice none 0 0)
         have t0:=q_cell rr 0
         have t1:=q_cell rr 1
         have t2:=q_cell rr 2
         have t3:=q_cell rr 3
         refine bodyPost_ret (v := .tuple #[.agg #[.int .i64 0,.slice none 0 0,.int .i64 0,.slice none 0 0],.int .i64 3]) ?_ rfl ⟨.agg #[.int .i64 0,.slice none 0 0,.int .i64 0,.slice none 0 0],by rw[HV3.out],fun e=>absurd (HV3.out.symm.trans e) (by decide),((((HB.out).setCell (p:=⟨w.heap.size+1+1,0,none⟩) (by show w.heap.size≤w.heap.size+1+1;omega) (.int .i64 0)).setCell (p:=⟨w.heap.size+1+1,1,none⟩) (by show w.heap.size≤w.heap.size+1+1;omega) (.slice none 0 0)).setCell (p:=⟨w.heap.size+1+1,2,none⟩) (by show w.heap.size≤w.heap.size+1+1;omega) (.int .i64 0)).setCell (p:=⟨w.heap.size+1+1,3,none⟩) (by show w.heap.size≤w.heap.size+1+1;omega) (.slice none 0 0),⟨_,_,_,_,_,_,_,_,rfl⟩⟩
         simp[results,Tryz.f12,go_sem,t0,t1,t2,t3]
        ·have hd1:decide (sv<1)=false:=decide_eq_false hv1
         by_cases hv2:999999999<sv
         ·have hd2:decide (999999999<sv)=true:=decide_eq_true hv2
          have HV3:Hid (ev=3):=by unfold Hid;rw[HVE.out,hd1,hd2];rfl
          go_wp2_with fail
          have rr:=q_set (i:=3) (q_set (i:=2) (q_set (i:=1) (q_set (i:=0) HRZ.out (.int .i64 0)) (.slice none 0 0)) (.int .i64 0)) (.slice none 0 0)
          have t0:=q_cell rr 0
          have t1:=q_cell rr 1
          have t2:=q_cell rr 2
          have t3:=q_cell rr 3
          refine bodyPost_ret (v := .tuple #[.agg #[.int .i64 0,.slice none 0 0,.int .i64 0,.slice none 0 0],.int .i64 3]) ?_ rfl ⟨.agg #[.int .i64 0,.slice none 0 0,.int .i64 0,.slice none 0 0],by rw[HV3.out],fun e=>absurd (HV3.out.symm.trans e) (by decide),((((HB.out).setCell (p:=⟨w.heap.size+1+1,0,none⟩) (by show w.heap.size≤w.heap.size+1+1;omega) (.int .i64 0)).setCell (p:=⟨w.heap.size+1+1,1,none⟩) (by show w.heap.size≤w.heap.size+1+1;omega) (.slice none 0 0)).setCell (p:=⟨w.heap.size+1+1,2,none⟩) (by show w.heap.size≤w.heap.size+1+1;omega) (.int .i64 0)).setCell (p:=⟨w.heap.size+1+1,3,none⟩) (by show w.heap.size≤w.heap.size+1+1;omega) (.slice none 0 0),⟨_,_,_,_,_,_,_,_,rfl⟩⟩
          simp[results,Tryz.f12,go_sem,t0,t1,t2,t3]
         ·have hd2:decide (999999999<sv)=false:=decide_eq_false hv2
          have HV0:Hid (ev=0):=by unfold Hid;rw[HVE.out,hd1,hd2];rfl
          go_wp2_with fail
          have rr:=q_set (i:=3) (q_set (i:=2) (q_set (i:=1) (q_set (i:=0) HRZ.out (.int .i64 (j:Int))) (.slice av k cv)) (.int .i64 sv)) (.slice (some ⟨bg,0,none⟩) j j)
          have t0:=q_cell rr 0
          have t1:=q_cell rr 1
          have t2:=q_cell rr 2
          have t3:=q_cell rr 3
          have hbRL:w.heap.size+1+1<W9.heap.size:=by have:=hcur9.size;omega
          have hneR:bg≠w.heap.size+1+1:=by omega
          have hrwF:=(((((HRJ.out).setCell (b:=w.heap.size+1+1) (i:=0) hbRL (.int .i64 (j:Int))).setCell (b:=w.heap.size+1+1) (i:=1) hbRL (.slice av k cv)).setCell (b:=w.heap.size+1+1) (i:=2) hbRL (.int .i64 sv)).setCell (b:=w.heap.size+1+1) (i:=3) hbRL (.slice (some ⟨bg,0,none⟩) j j))
          have hrcF:=rows_rc hrwF HPK.out (by omega) HRM.out _ HRS.out
          refine bodyPost_ret (v := .tuple #[.agg #[.int .i64 (j:Int),.slice av k cv,.int .i64 sv,.slice (some ⟨bg,0,none⟩) j j],.int .i64 0]) ?_ rfl ⟨.agg #[.int .i64 (j:Int),.slice av k cv,.int .i64 sv,.slice (some ⟨bg,0,none⟩) j j],by rw[HV0.out],fun _=>⟨av,cv,bg,pre,rfl,hrcF.1,hrcF.2,((((HICR.out).other (i:=0) hneR (.int .i64 (j:Int))).other (i:=1) hneR (.slice av k cv)).other (i:=2) hneR (.int .i64 sv)).other (i:=3) hneR (.slice (some ⟨bg,0,none⟩) j j),by have:=fB.size;omega,RowsI.low hrwF (by have h1:=fB.size;have h2:=hcur9.size;omega),HRS.out⟩,((((HB.out).setCell (p:=⟨w.heap.size+1+1,0,none⟩) (by show w.heap.size≤w.heap.size+1+1;omega) (.int .i64 (j:Int))).setCell (p:=⟨w.heap.size+1+1,1,none⟩) (by show w.heap.size≤w.heap.size+1+1;omega) (.slice av k cv)).setCell (p:=⟨w.heap.size+1+1,2,none⟩) (by show w.heap.size≤w.heap.size+1+1;omega) (.int .i64 sv)).setCell (p:=⟨w.heap.size+1+1,3,none⟩) (by show w.heap.size≤w.heap.size+1+1;omega) (.slice (some ⟨bg,0,none⟩) j j),⟨_,_,_,_,_,_,_,_,rfl⟩⟩
          simp[results,Tryz.f12,go_sem,t0,t1,t2,t3]
       | true =>
        have hm1:0≤lv*((j:Int)+1):=Int.mul_nonneg HS9.out.2.2.1 (by omega)
        have hm2:lv*((j:Int)+1)≤1000*257:=Int.mul_le_mul HS9.out.2.2.2 (by omega) (by omega) (by omega)
        have hs1:=HS9.out.1
        have hs2:=HS9.out.2.1
        go_wp2_with fail
        refine (HLE.out _ hBj).mono ?_
        rintro _ w11 ⟨rfl,hb11⟩
        have hc11:=keep_trans hcj hb11
        clear x0 x1 x2 x3 xl y0 y1 yl
        obtain ⟨x0,x1,x2,x3,xl⟩:=HX.out _ hc11
        have hq11:=keepq hb11 HQJ.out
        have u2:=q_cell hq11 2
        have uf2:=q_free hq11 2
        have ul:=q_lt hq11
        go_upto_region 28 with fail
        have hsv:lv*((j:Int)+1) - sum=sv:=HSV.out.symm
        rw[hsv]
        have hq12:=q_set (i:=2) hq11 (.int .i64 sv)
        replace HQJ:=Lib.hid hq12
        replace HICR:=Lib.hid ((HICR.out.mono hb11).other (i:=2) hne (.int .i64 sv))
        replace HRJ:=Lib.hid ((HRJ.out.keep (M':=fun _=>False) ((Below.stays hb11 (fun _=>False)).toL 0) (fun _ e=>e.elim)).setCell (b:=b8) (i:=2) hq9l (.int .i64 sv))
        replace HRZ:=Lib.hid (q_other (i:=2) (keepq hb11 HRZ.out) (show w.heap.size+1+1≠b8 by omega) (.int .i64 sv))
        replace HB:=Lib.hid ((keep_trans HB.out hb11).setCell (p:=⟨b8,2,none⟩) (by have:=fB.size;show w.heap.size≤b8;omega) (.int .i64 sv))
        generalize (w11.setCell ⟨b8,2,none⟩ (.int .i64 sv))=wr2 at HQJ HICR HRJ HRZ HB ⊢
        have z0:=q_cell HQJ.out 0
        have z1:=q_cell HQJ.out 1
        have z2:=q_cell HQJ.out 2
        have z3:=q_cell HQJ.out 3
        have zl:=q_lt HQJ.out
        clear x0 x1 x2 x3 xl u2 uf2 ul hq11 hq12
        have r0:=q_cell HRZ.out 0
        have r1:=q_cell HRZ.out 1
        have r2:=q_cell HRZ.out 2
        have r3:=q_cell HRZ.out 3
        have rf0:=q_free HRZ.out 0
        have rf1:=q_free HRZ.out 1
        have rf2:=q_free HRZ.out 2
        have rf3:=q_free HRZ.out 3
        have rl:=q_lt HRZ.out
        by_cases hv1:sv<1
        ·have hd1:decide (sv<1)=true:=decide_eq_true hv1
         have HV3:Hid (ev=3):=by unfold Hid;rw[HVE.out,hd1];rfl
         go_wp2_with fail
         have rr:=q_set (i:=3) (q_set (i:=2) (q_set (i:=1) (q_set (i:=0) HRZ.out (.int .i64 0)) (.slice none 0 0)) (.int .i64 0)) (.slice none 0 0)
         have t0:=q_cell rr 0
         have t1:=q_cell rr 1
         have t2:=q_cell rr 2
         have t3:=q_cell rr 3
         refine bodyPost_ret (v := .tuple #[.agg #[.int .i64 0,.slice none 0 0,.int .i64 0,.slice none 0 0],.int .i64 3]) ?_ rfl ⟨.agg #[.int .i64 0,.slice none 0 0,.int .i64 0,.slice none 0 0],by rw[HV3.out],fun e=>absurd (HV3.out.symm.trans e) (by decide),((((HB.out).setCell (p:=⟨w.heap.size+1+1,0,none⟩) (by show w.heap.size≤w.heap.size+1+1;omega) (.int .i64 0)).setCell (p:=⟨w.heap.size+1+1,1,none⟩) (by show w.heap.size≤w.heap.size+1+1;omega) (.slice none 0 0)).setCell (p:=⟨w.heap.size+1+1,2,none⟩) (by show w.heap.size≤w.heap.size+1+1;omega) (.int .i64 0)).setCell (p:=⟨w.heap.size+1+1,3,none⟩) (by show w.heap.size≤w.heap.size+1+1;omega) (.slice none 0 0),⟨_,_,_,_,_,_,_,_,rfl⟩⟩
         simp[results,Tryz.f12,go_sem,t0,t1,t2,t3]
        ·have hd1:decide (sv<1)=false:=decide_eq_false hv1
         by_cases hv2:999999999<sv
         ·have hd2:decide (999999999<sv)=true:=decide_eq_true hv2
          have HV3:Hid (ev=3):=by unfold Hid;rw[HVE.out,hd1,hd2];rfl
          go_wp2_with fail
          have rr:=q_set (i:=3) (q_set (i:=2) (q_set (i:=1) (q_set (i:=0) HRZ.out (.int .i64 0)) (.slice none 0 0)) (.int .i64 0)) (.slice none 0 0)
          have t0:=q_cell rr 0
          have t1:=q_cell rr 1
          have t2:=q_cell rr 2
          have t3:=q_cell rr 3
          refine bodyPost_ret (v := .tuple #[.agg #[.int .i64 0,.slice none 0 0,.int .i64 0,.slice none 0 0],.int .i64 3]) ?_ rfl ⟨.agg #[.int .i64 0,.slice none 0 0,.int .i64 0,.slice none 0 0],by rw[HV3.out],fun e=>absurd (HV3.out.symm.trans e) (by decide),((((HB.out).setCell (p:=⟨w.heap.size+1+1,0,none⟩) (by show w.heap.size≤w.heap.size+1+1;omega) (.int .i64 0)).setCell (p:=⟨w.heap.size+1+1,1,none⟩) (by show w.heap.size≤w.heap.size+1+1;omega) (.slice none 0 0)).setCell (p:=⟨w.heap.size+1+1,2,none⟩) (by show w.heap.size≤w.heap.size+1+1;omega) (.int .i64 0)).setCell (p:=⟨w.heap.size+1+1,3,none⟩) (by show w.heap.size≤w.heap.size+1+1;omega) (.slice none 0 0),⟨_,_,_,_,_,_,_,_,rfl⟩⟩
          simp[results,Tryz.f12,go_sem,t0,t1,t2,t3]
         ·have hd2:decide (999999999<sv)=false:=decide_eq_false hv2
          have HV0:Hid (ev=0):=by unfold Hid;rw[HVE.out,hd1,hd2];rfl
          go_wp2_with fail
          have rr:=q_set (i:=3) (q_set (i:=2) (q_set (i:=1) (q_set (i:=0) HRZ.out (.int .i64 (j:Int))) (.slice av k cv)) (.int .i64 sv)) (.slice (some ⟨bg,0,none⟩) j j)
          have t0:=q_cell rr 0
          have t1:=q_cell rr 1
          have t2:=q_cell rr 2
          have t3:=q_cell rr 3
          have hbRL:w.heap.size+1+1<W9.heap.size:=by have:=hcur9.size;omega
          have hneR:bg≠w.heap.size+1+1:=by omega
          have hrwF:=(((((HRJ.out).setCell (b:=w.heap.size+1+1) (i:=0) hbRL (.int .i64 (j:Int))).setCell (b:=w.heap.size+1+1) (i:=1) hbRL (.slice av k cv)).setCell (b:=w.heap.size+1+1) (i:=2) hbRL (.int .i64 sv)).setCell (b:=w.heap.size+1+1) (i:=3) hbRL (.slice (some ⟨bg,0,none⟩) j j))
          have hrcF:=rows_rc hrwF HPK.out (by omega) HRM.out _ HRS.out
          refine bodyPost_ret (v := .tuple #[.agg #[.int .i64 (j:Int),.slice av k cv,.int .i64 sv,.slice (some ⟨bg,0,none⟩) j j],.int .i64 0]) ?_ rfl ⟨.agg #[.int .i64 (j:Int),.slice av k cv,.int .i64 sv,.slice (some ⟨bg,0,none⟩) j j],by rw[HV0.out],fun _=>⟨av,cv,bg,pre,rfl,hrcF.1,hrcF.2,((((HICR.out).other (i:=0) hneR (.int .i64 (j:Int))).other (i:=1) hneR (.slice av k cv)).other (i:=2) hneR (.int .i64 sv)).other (i:=3) hneR (.slice (some ⟨bg,0,none⟩) j j),by have:=fB.size;omega,RowsI.low hrwF (by have h1:=fB.size;have h2:=hcur9.size;omega),HRS.out⟩,((((HB.out).setCell (p:=⟨w.heap.size+1+1,0,none⟩) (by show w.heap.size≤w.heap.size+1+1;omega) (.int .i64 (j:Int))).setCell (p:=⟨w.heap.size+1+1,1,none⟩) (by show w.heap.size≤w.heap.size+1+1;omega) (.slice av k cv)).setCell (p:=⟨w.heap.size+1+1,2,none⟩) (by show w.heap.size≤w.heap.size+1+1;omega) (.int .i64 sv)).setCell (p:=⟨w.heap.size+1+1,3,none⟩) (by show w.heap.size≤w.heap.size+1+1;omega) (.slice (some ⟨bg,0,none⟩) j j),⟨_,_,_,_,_,_,_,_,rfl⟩⟩
          simp[results,Tryz.f12,go_sem,t0,t1,t2,t3]
theorem movetask_c {ls:List (List Int)} {sum:Int} {g:List Int} {n':Nat} (G:GoodTask (n':Int) ls sum g) (ht:taskErr (n':Int) ls sum g=0) (a:Option Addr) (n c:Nat) (a':Option Addr) (c':Nat) (ap:Option Addr) (cap:Nat) (p:List Int) (cp:Bool) (w:World)
  (h:RC w a n ls) (hcap:n≤c) (h':IC w a' n' g) (hcap':n'≤c') (hp:IC w ap n' p) (hpe:permE p=0) :
  Calls Tryz.prog 12 #[.agg #[.int .i64 (n':Int),.slice a n c,.int .i64 sum,.slice a' n' c'],.agg #[.slice ap n' cap,.bool cp]] w fun e w'=>∃v,e = .returned (.tuple #[v,.int .i64 (mvE cp (n':Int) ls sum)]) ∧
   (mvE cp (n':Int) ls sum=0→MvOut w.heap.size w' n n' (ls.map (lineI p)) (cmS cp (n':Int) (lenV ls) sum) (movG cp p g) v)∧Below w.heap.size w w' :=
 (movetask_v G ht a n c a' c' ap cap p cp w h hcap h' hcap' hp hpe).mono fun _ _ ⟨v,h1,h2,h3,_⟩=>⟨v,h1,h2,h3⟩
end
end Go.Proofs.YtaadpihbjhachaaGreat
