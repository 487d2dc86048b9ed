/- Texts B10 to B10 of this proof, in one file. -/
import Derived.Test.YtaadpihbjhachaaGreatW54
import Derived.Test.YtaadpihbjhachaaGreatW58
import Derived.Test.YtaadpihbjhachaaGreatW59
import Derived.Test.YtaadpihbjhachaaGreatW62
import Derived.Test.YtaadpihbjhachaaGreatW65
namespace Go.Proofs.YtaadpihbjhachaaGreat
set_option maxRecDepth 100000
set_option maxHeartbeats 16000000
section
open Go Go.RowKit Go.Shelf Go.Sort
attribute [local go_sem] zv
attribute [local go_sem] Oper.semAt_some
theorem isort_c (L:Nat) (v:Value) (zs:List Int) (w:World) (h:w.ownsRow L 3 1 v zs.length (zs.map (Value.int .i64))) (h1:1≤zs.length) (hr:zs.length≤100000) :
  Calls Tryz.prog 58 #[v] w fun e w'=>e = .returned (.tuple #[])∧w'.ownsRow L 3 1 v zs.length ((srt zs).map (Value.int .i64))∧Stays (fun k=>v.ownBlock=some k) w w':=by
 rcases h.2 with ⟨_,hz⟩|⟨gb,cap1,cur,rfl,hbase,hgb,r1,r2,r3,r4⟩
 ·omega
 have hH:Holds (Value.int .i64) w gb 0 zs.toArray:=holds_of_block_i hgb (by simpa using r4)
 have hgl:gb<w.heap.size:=(Array.getElem?_eq_some_iff.1 hgb).1
 refine (AnyM.slices_Sort_int sortA gb 0 cap1 zs w hH hgl (by omega)).mono ?_
 rintro _ w' ⟨rfl,nn,os,rfl⟩
 exact ⟨rfl,ownsRow_sorted_i (by simp) hbase hgb r1 r2 r3,Stays.grown (grownBy_sorted_i _) (fun k e=>by cases e;rfl)⟩
theorem number_c (T0 T1 T2:Value) (ag:Option Addr) (n cg:Nat) (ap:Option Addr) (np cap:Nat) (cp:Bool) (x:Int) (w:World) (hn:n≤256) (hx:0≤x∧x≤(n:Int)) :
  Calls Tryz.prog 59 #[.agg #[T0,T1,T2,.slice ag n cg],.int .i64 x,.agg #[.slice ap np cap,.bool cp]] w fun e w'=>e = .returned (.int .i64 (cgN cp (n:Int) x))∧Below w.heap.size w w':=by
 cases cp with
 | false =>
  have HE:Hid (cgN false (n:Int) x=x):=rfl
  go_enter Tryz.func59,Tryz.ntmps59
  go_upto_region 1 with fail
  have fsz:((w.alloc (.cells #[T0,T1,T2,.slice ag n cg] 27)).alloc (.cells #[.slice ap np cap,.bool false] 29)).heap.size=w.heap.size+2:=by simp only[World.size_alloc] <;> omega
  have fB:Below w.heap.size w ((w.alloc (.cells #[T0,T1,T2,.slice ag n cg] 27)).alloc (.cells #[.slice ap np cap,.bool false] 29)):=((Below.refl _ _).alloc (Nat.le_refl _) _).alloc (by simp only[World.size_alloc];omega) _
  have fq0:((w.alloc (.cells #[T0,T1,T2,.slice ag n cg] 27)).alloc (.cells #[.slice ap np cap,.bool false] 29)).heap[w.heap.size]?=some (.cells #[T0,T1,T2,.slice ag n cg] 27 (0,0)):=by have h:=World.alloc_heap_new w (.cells #[T0,T1,T2,.slice ag n cg] 27);exact (Below.heap_alloc _ _ _ (by simp only[World.size_alloc];omega)).trans (h)
  have fq1:((w.alloc (.cells #[T0,T1,T2,.slice ag n cg] 27)).alloc (.cells #[.slice ap np cap,.bool false] 29)).heap[w.heap.size+1]?=some (.cells #[.slice ap np cap,.bool false] 29 (0,0)):=by have h:=World.alloc_heap_new (w.alloc (.cells #[T0,T1,T2,.slice ag n cg] 27)) (.cells #[.slice ap np cap,.bool false] 29);simp only[World.size_alloc] at h;exact h
  generalize ((w.alloc (.cells #[T0,T1,T2,.slice ag n cg] 27)).alloc (.cells #[.slice ap np cap,.bool false] 29))=W0 at fsz fB fq0 fq1 ⊢
  have x3:W0.cell? ⟨w.heap.size,3,none⟩=some (.slice ag n cg):=zc fq0 3
  have y1:W0.cell? ⟨w.heap.size+1,1,none⟩=some (.bool false):=zc fq1 1
  have xl:=zy fq0
  have yl:=zy fq1
  clear fq0 fq1 fsz
  go_wp2
  go_ret
  exact ⟨by rw[HE.out];rfl,fB⟩
 | true =>
  by_cases h0:0<x
  ·have hd:decide (0<x)=true:=decide_eq_true h0
   have HE:Hid (cgN true (n:Int) x=(n:Int)+1 - x):=by unfold Hid cgN;rw[hd];rfl
   go_enter Tryz.func59,Tryz.ntmps59
   go_upto_region 1 with fail
   have fsz:((w.alloc (.cells #[T0,T1,T2,.slice ag n cg] 27)).alloc (.cells #[.slice ap np cap,.bool true] 29)).heap.size=w.heap.size+2:=by simp only[World.size_alloc] <;> omega
   have fB:Below w.heap.size w ((w.alloc (.cells #[T0,T1,T2,.slice ag n cg] 27)).alloc (.cells #[.slice ap np cap,.bool true] 29)):=((Below.refl _ _).alloc (Nat.le_refl _) _).alloc (by simp only[World.size_alloc];omega) _
   have fq0:((w.alloc (.cells #[T0,T1,T2,.slice ag n cg] 27)).alloc (.cells #[.slice ap np cap,.bool true] 29)).heap[w.heap.size]?=some (.cells #[T0,T1,T2,.slice ag n cg] 27 (0,0)):=by have h:=World.alloc_heap_new w (.cells #[T0,T1,T2,.slice ag n cg] 27);exact (Below.heap_alloc _ _ _ (by simp only[World.size_alloc];omega)).trans (h)
   have fq1:((w.alloc (.cells #[T0,T1,T2,.slice ag n cg] 27)).alloc (.cells #[.slice ap np cap,.bool true] 29)).heap[w.heap.size+1]?=some (.cells #[.slice ap np cap,.bool true] 29 (0,0)):=by have h:=World.alloc_heap_new (w.alloc (.cells #[T0,T1,T2,.slice ag n cg] 27)) (.cells #[.slice ap np cap,.bool true] 29);simp only[World.size_alloc] at h;exact h
   generalize ((w.alloc (.cells #[T0,T1,T2,.slice ag n cg] 27)).alloc (.cells #[.slice ap np cap,.bool true] 29))=W0 at fsz fB fq0 fq1 ⊢
   have x3:W0.cell? ⟨w.heap.size,3,none⟩=some (.slice ag n cg):=zc fq0 3
   have y1:W0.cell? ⟨w.heap.size+1,1,none⟩=some (.bool true):=zc fq1 1
   have xl:=zy fq0
   have yl:=zy fq1
   clear fq0 fq1 fsz
   go_wp2
   go_ret
   exact ⟨by rw[HE.out];rfl,fB⟩
  ·have hd:decide (0<x)=false:=decide_eq_false h0
   have HE:Hid (cgN true (n:Int) x=x):=by unfold Hid cgN;rw[hd];rfl
   go_enter Tryz.func59,Tryz.ntmps59
   go_upto_region 1 with fail
   have fsz:((w.alloc (.cells #[T0,T1,T2,.slice ag n cg] 27)).alloc (.cells #[.slice ap np cap,.bool true] 29)).heap.size=w.heap.size+2:=by simp only[World.size_alloc] <;> omega
   have fB:Below w.heap.size w ((w.alloc (.cells #[T0,T1,T2,.slice ag n cg] 27)).alloc (.cells #[.slice ap np cap,.bool true] 29)):=((Below.refl _ _).alloc (Nat.le_refl _) _).alloc (by simp only[World.size_alloc];omega) _
   have fq0:((w.alloc (.cells #[T0,T1,T2,.slice ag n cg] 27)).alloc (.cells #[.slice ap np cap,.bool true] 29)).heap[w.heap.size]?=some (.cells #[T0,T1,T2,.slice ag n cg] 27 (0,0)):=by have h:=World.alloc_heap_new w (.cells #[T0,T1,T2,.slice ag n cg] 27);exact (Below.heap_alloc _ _ _ (by simp only[World.size_alloc];omega)).trans (h)
   have fq1:((w.alloc (.cells #[T0,T1,T2,.slice ag n cg] 27)).alloc (.cells #[.slice ap np cap,.bool true] 29)).heap[w.heap.size+1]?=some (.cells #[.slice ap np cap,.bool true] 29 (0,0)):=by have h:=World.alloc_heap_new (w.alloc (.cells #[T0,T1,T2,.slice ag n cg] 27)) (.cells #[.slice ap np cap,.bool true] 29);simp only[World.size_alloc] at h;exact h
   generalize ((w.alloc (.cells #[T0,T1,T2,.slice ag n cg] 27)).alloc (.cells #[.slice ap np cap,.bool true] 29))=W0 at fsz fB fq0 fq1 ⊢
   have x3:W0.cell? ⟨w.heap.size,3,none⟩=some (.slice ag n cg):=zc fq0 3
   have y1:W0.cell? ⟨w.heap.size+1,1,none⟩=some (.bool true):=zc fq1 1
   have xl:=zy fq0
   have yl:=zy fq1
   clear fq0 fq1 fsz
   go_wp2
   go_ret
   exact ⟨by rw[HE.out];rfl,fB⟩
theorem len1_c (a1:Option Addr) (n1 c1 b b2 o2 n2 c2:Nat) (a3:Option Addr) (n3 c3:Nat) (w:World) (_hb:b<w.heap.size) (h1:w.cell? ⟨b,0,none⟩=some (.slice (some ⟨b2,o2,none⟩) n2 c2)) (h0:0<n2) (hs:n2≤17592186044416) (_hb2:b2<w.heap.size) (h2:w.cell? ⟨b2,o2,none⟩=some (.slice a3 n3 c3)) :
  Calls Tryz.prog 138 #[.slice a1 n1 c1,.pointer (some ⟨b,0,none⟩)] w fun e w'=>e = .returned (.bool ((n1:Int) != (n3:Int)))∧w=w':=by
 have h0i:(0:Int)<(n2:Int):=by omega
 go_enter Tryz.func138,Tryz.ntmps138
 go_wp2
 go_ret
 exact ⟨rfl,rfl⟩
theorem len1_fn:∀(args:Array Value) (w:World),Sem.run Tryz.prog (callFunc 138 args) w = .ok (.enter 138 args) w:=by
 intro args w;kernel_rfl
def jL (ls:List (List Int)):Int:=((ls[0]?.getD []).length:Int)
def qM (ls:List (List Int)):Bool:=decide (0<ls.length)&&!qh (fun k=>((ls[k]?.getD []).length:Int) != ((ls[0]?.getD []).length:Int)) ls.length
theorem level_len {ls:List (List Int)} (h:qM ls=true):∀l,l∈ls→(l.length:Int)=jL ls:=fun l hl=>by
 unfold qM at h
 rw[Bool.and_eq_true,Bool.not_eq_true'] at h
 have h2:=h.2
 unfold qh at h2
 rw[List.any_eq_false] at h2
 obtain ⟨k,hk,e⟩:=List.getElem_of_mem hl
 have h3:=h2 k (by simpa using hk)
 rw[List.getElem?_eq_getElem hk,Option.getD_some,e] at h3
 unfold jL
 simpa using h3
theorem length_c (a:Option Addr) (n c:Nat) (ls:List (List Int)) (cells sum:Int) (a':Option Addr) (n' c':Nat) (w:World) (h:RC w a n ls) :
  Calls Tryz.prog 60 #[.agg #[.int .i64 cells,.slice a n c,.int .i64 sum,.slice a' n' c']] w fun e w'=>e = .returned (.tuple #[.int .i64 (jL ls),.bool (qM ls)])∧Below w.heap.size w w':=by
 have hm:=h.small
 have hl:=h.len
 have H:=za h
 by_cases h0:n=0
 ·have HV:Hid (jL ls=0):=by unfold Hid jL;rw[List.getElem?_eq_none (by omega)];rfl
  have HB:Hid (qM ls=false):=by unfold Hid qM;rw[decide_eq_false (by omega)];rfl
  subst h0
  clear h hl
  go_enter Tryz.func60,Tryz.ntmps60
  go_upto_region 2 with fail
  have fsz:((w.alloc (.cells #[.int .i64 cells,.slice a 0 c,.int .i64 sum,.slice a' n' c'] 27)).alloc (.cells #[.slice a 0 c] 22)).heap.size=w.heap.size+2:=by simp only[World.size_alloc] <;> omega
  have fB:Below w.heap.size w ((w.alloc (.cells #[.int .i64 cells,.slice a 0 c,.int .i64 sum,.slice a' n' c'] 27)).alloc (.cells #[.slice a 0 c] 22)):=((Below.refl _ _).alloc (Nat.le_refl _) _).alloc (by simp only[World.size_alloc];omega) _
  have fq0:((w.alloc (.cells #[.int .i64 cells,.slice a 0 c,.int .i64 sum,.slice a' n' c'] 27)).alloc (.cells #[.slice a 0 c] 22)).heap[w.heap.size]?=some (.cells #[.int .i64 cells,.slice a 0 c,.int .i64 sum,.slice a' n' c'] 27 (0,0)):=by have h:=World.alloc_heap_new w (.cells #[.int .i64 cells,.slice a 0 c,.int .i64 sum,.slice a' n' c'] 27);exact (Below.heap_alloc _ _ _ (by simp only[World.size_alloc];omega)).trans (h)
  have fq1:((w.alloc (.cells #[.int .i64 cells,.slice a 0 c,.int .i64 sum,.slice a' n' c'] 27)).alloc (.cells #[.slice a 0 c] 22)).heap[w.heap.size+1]?=some (.cells #[.slice a 0 c] 22 (0,0)):=by have h:=World.alloc_heap_new (w.alloc (.cells #[.int .i64 cells,.slice a 0 c,.int .i64 sum,.slice a' n' c'] 27)) (.cells #[.slice a 0 c] 22);simp only[World.size_alloc] at h;exact h
  generalize ((w.alloc (.cells #[.int .i64 cells,.slice a 0 c,.int .i64 sum,.slice a' n' c'] 27)).alloc (.cells #[.slice a 0 c] 22))=W0 at fsz fB fq0 fq1 ⊢
  have y0:W0.cell? ⟨w.heap.size+1,0,none⟩=some (.slice a 0 c):=zc fq1 0
  have yl:=zy fq1
  clear fq0 fq1 fsz
  go_wp2_with fail
  go_ret2
  exact ⟨by rw[HV.out,HB.out];rfl,fB⟩
 ·have HV:Hid (jL ls=((ls[0]?.getD []).length:Int)):=rfl
  have HB:Hid (qM ls=!qh (fun k=>((ls[k]?.getD []).length:Int) != ((ls[0]?.getD []).length:Int)) n):=by unfold Hid qM;rw[decide_eq_true (by omega),hl];rfl
  clear h hl
  have hn0:(0:Int)<(n:Int):=by omega
  have hne:((n:Int)==0)=false:=by simpa using h0
  generalize jL ls=lv at HV ⊢
  generalize qM ls=lb at HB ⊢
  go_enter Tryz.func60,Tryz.ntmps60
  go_upto_region 2 with fail
  have fsz:((w.alloc (.cells #[.int .i64 cells,.slice a n c,.int .i64 sum,.slice a' n' c'] 27)).alloc (.cells #[.slice a n c] 22)).heap.size=w.heap.size+2:=by simp only[World.size_alloc] <;> omega
  have fB:Below w.heap.size w ((w.alloc (.cells #[.int .i64 cells,.slice a n c,.int .i64 sum,.slice a' n' c'] 27)).alloc (.cells #[.slice a n c] 22)):=((Below.refl _ _).alloc (Nat.le_refl _) _).alloc (by simp only[World.size_alloc];omega) _
  have fq0:((w.alloc (.cells #[.int .i64 cells,.slice a n c,.int .i64 sum,.slice a' n' c'] 27)).alloc (.cells #[.slice a n c] 22)).heap[w.heap.size]?=some (.cells #[.int .i64 cells,.slice a n c,.int .i64 sum,.slice a' n' c'] 27 (0,0)):=by have h:=World.alloc_heap_new w (.cells #[.int .i64 cells,.slice a n c,.int .i64 sum,.slice a' n' c'] 27);exact (Below.heap_alloc _ _ _ (by simp only[World.size_alloc];omega)).trans (h)
  have fq1:((w.alloc (.cells #[.int .i64 cells,.slice a n c,.int .i64 sum,.slice a' n' c'] 27)).alloc (.cells #[.slice a n c] 22)).heap[w.heap.size+1]?=some (.cells #[.slice a n c] 22 (0,0)):=by have h:=World.alloc_heap_new (w.alloc (.cells #[.int .i64 cells,.slice a n c,.int .i64 sum,.slice a' n' c'] 27)) (.cells #[.slice a n c] 22);simp only[World.size_alloc] at h;exact h
  generalize ((w.alloc (.cells #[.int .i64 cells,.slice a n c,.int .i64 sum,.slice a' n' c'] 27)).alloc (.cells #[.slice a n c] 22))=W0 at fsz fB fq0 fq1 ⊢
  have y0:W0.cell? ⟨w.heap.size+1,0,none⟩=some (.slice a n c):=zc fq1 0
  have yl:=zy fq1
  have HCF:Hid (∀W,Below W0.heap.size W0 W→Calls Tryz.prog 137 #[.slice a n c,.func (.func 138) #[] #[.pointer (some ⟨w.heap.size+1,0,none⟩)]] W fun e w'=>e = .returned (.bool (qh (fun k=>((ls[k]?.getD []).length:Int) != ((ls[0]?.getD []).length:Int)) n))∧Below W.heap.size W w'):=fun W hbW =>
   ka a n c ls 138 #[.pointer (some ⟨w.heap.size+1,0,none⟩)] _ W (H.out.mono (zb fB hbW)) len1_fn (fun k hk W2 a1 n1 c1 hb hic _=>by
    obtain ⟨b2,o2,a3,n3,c3,e2,hb2,hc2,hi3,_⟩:=(H.out.mono (zb (zb fB hbW) hb)).2 0 (by omega)
    have hq:=zm (zb hbW hb) fq1
    have h1:=zc hq 0
    simp only[Nat.add_zero] at hc2
    subst e2
    have e1:=hic.len
    have e3:=hi3.len
    refine (len1_c a1 n1 c1 (w.heap.size+1) b2 o2 n c a3 n3 c3 W2 (zy hq) h1 (by omega) (by omega) hb2 hc2).mono ?_
    rintro _ w3 ⟨rfl,rfl⟩
    exact ⟨by rw[e1,e3],Below.refl _ _⟩)
  generalize qh (fun k=>((ls[k]?.getD []).length:Int) != ((ls[0]?.getD []).length:Int)) n=ab at HCF HB
  obtain ⟨b2,o2,a3,n3,c3,rfl,hb2,hc2,hi3,_⟩:=(H.out.mono fB).2 0 (by omega)
  simp only[Nat.add_zero] at hc2
  rw[hi3.len] at HV
  clear fq0 fq1 fsz hi3
  go_upto_region 4 with fail
  refine zk (fun w'=>∃u,w'=over (W0) u) [9] [(0,0),(0,1),(0,2),(0,3),(0,4),(0,5),(1,6),(0,7),(1,8),(2,9)] (by kernel_rfl) (by kernel_rfl) (by exact ⟨_,zi (by repeat (first|assumption|exact Below.refl _ _|refine zd ?_|refine zg ?_ _|refine zb ?_ (by assumption)))⟩) ?_
  dsimp only[zt,zG]
  repeat (first|(refine zu rfl (fun K hK=>?_);go_big_quiet_op;refine hK _ ?_;clear hK K)|(refine zp rfl rfl (fun K hK=>?_);go_big_quiet_op;refine hK _ ?_;clear hK K)|(refine zE ?_;go_wp2_with ((go_at_call 137;refine (HCF.out _ (zd (Below.refl _ _))).mono ?_;rintro _ w3 ⟨rfl,hb3⟩));refine ⟨?_,?_⟩;focus (exact ⟨_,zi (by repeat (first|assumption|exact Below.refl _ _|refine zd ?_|refine zg ?_ _|refine zb ?_ (by assumption)))⟩)))
  refine zA _ _ _ rfl ?_
  dsimp only[List.map]
  go_wp2_with ((go_at_call 137;refine (HCF.out _ (zd (Below.refl _ _))).mono ?_;rintro _ w3 ⟨rfl,hb3⟩))
  refine NoPanic.normal ?_
  go_wp2_with fail
  go_ret2
  exact ⟨by rw[HV.out,HB.out];rfl,zb fB (zb (zd (Below.refl _ _)) hb3)⟩
theorem cmove_c (a:Option Addr) (n c:Nat) (ls:List (List Int)) (sum:Int) (a':Option Addr) (n' c':Nat) (ap:Option Addr) (cap:Nat) (p:List Int) (cp:Bool) (w:World) (h:RC w a n ls) (hp:IC w ap n' p) (hpe:jX p=0) :
  Calls Tryz.prog 57 #[.agg #[.int .i64 (n':Int),.slice a n c,.int .i64 sum,.slice a' n' c'],.agg #[.slice ap n' cap,.bool cp]] w fun e w'=>e = .returned (.int .i64 (zn (cp&&!qM ls) 2))∧Below w.heap.size w w':=by
 have hm:=hp.small
 have HCS:Hid (∀W,Below w.heap.size w W→Calls Tryz.prog 84 #[.agg #[.slice ap n' cap,.bool cp],.int .i64 (n':Int)] W fun e w'=>e = .returned (.int .i64 0)∧Below W.heap.size W w'):=fun W hb=>by
  have:=gsym_c ap n' cap p cp (n':Int) W (hp.mono hb)
  rw[symP_ok hp.len hpe] at this
  exact this
 have HLE:=za (fun W (hb:Below w.heap.size w W)=>length_c a n c ls (n':Int) sum a' n' c' W (h.mono hb))
 clear h hp hpe
 generalize jL ls=lv at HLE
 generalize qM ls=lb at HLE ⊢
 have hne:((n':Int) != (n':Int))=false:=by simp
 go_enter Tryz.func57,Tryz.ntmps57
 go_upto_region 1 with fail
 have fsz:((w.alloc (.cells #[.int .i64 (n':Int),.slice a n c,.int .i64 sum,.slice a' n' c'] 27)).alloc (.cells #[.slice ap n' cap,.bool cp] 29)).heap.size=w.heap.size+2:=by simp only[World.size_alloc] <;> omega
 have fB:Below w.heap.size w ((w.alloc (.cells #[.int .i64 (n':Int),.slice a n c,.int .i64 sum,.slice a' n' c'] 27)).alloc (.cells #[.slice ap n' cap,.bool cp] 29)):=((Below.refl _ _).alloc (Nat.le_refl _) _).alloc (by simp only[World.size_alloc];omega) _
 have fq0:((w.alloc (.cells #[.int .i64 (n':Int),.slice a n c,.int .i64 sum,.slice a' n' c'] 27)).alloc (.cells #[.slice ap n' cap,.bool cp] 29)).heap[w.heap.size]?=some (.cells #[.int .i64 (n':Int),.slice a n c,.int .i64 sum,.slice a' n' c'] 27 (0,0)):=by have h:=World.alloc_heap_new w (.cells #[.int .i64 (n':Int),.slice a n c,.int .i64 sum,.slice a' n' c'] 27);exact (Below.heap_alloc _ _ _ (by simp only[World.size_alloc];omega)).trans (h)
 have fq1:((w.alloc (.cells #[.int .i64 (n':Int),.slice a n c,.int .i64 sum,.slice a' n' c'] 27)).alloc (.cells #[.slice ap n' cap,.bool cp] 29)).heap[w.heap.size+1]?=some (.cells #[.slice ap n' cap,.bool cp] 29 (0,0)):=by have h:=World.alloc_heap_new (w.alloc (.cells #[.int .i64 (n':Int),.slice a n c,.int .i64 sum,.slice a' n' c'] 27)) (.cells #[.slice ap n' cap,.bool cp] 29);simp only[World.size_alloc] at h;exact h
 generalize ((w.alloc (.cells #[.int .i64 (n':Int),.slice a n c,.int .i64 sum,.slice a' n' c'] 27)).alloc (.cells #[.slice ap n' cap,.bool cp] 29))=W0 at fsz fB fq0 fq1 ⊢
 have HX:=za (fun W (hb:Below W0.heap.size W0 W)=>l4 (zm hb fq0))
 have HY:=za (fun W (hb:Below W0.heap.size W0 W)=>(And.intro (zc (zm hb fq1) 0) (And.intro (zc (zm hb fq1) 1) (zy (zm hb fq1))):W.cell? ⟨w.heap.size+1,0,none⟩=some (.slice ap n' cap)∧W.cell? ⟨w.heap.size+1,1,none⟩=some (.bool cp)∧w.heap.size+1<W.heap.size))
 obtain ⟨x0,x1,x2,x3,xl⟩:=HX.out _ (Below.refl _ _)
 obtain ⟨y0,y1,yl⟩:=HY.out _ (Below.refl _ _)
 clear fq0 fq1 fsz
 refine zk (fun w'=>∃u,w'=over (W0) u) [15,14,13,12] [(0,0),(0,1),(0,2),(0,3),(0,5),(0,6),(0,7),(0,8),(0,9),(0,10),(0,11),(1,4),(2,12),(2,13),(2,14),(2,15)] (by kernel_rfl) (by kernel_rfl) (by exact ⟨_,zi (by repeat (first|assumption|exact Below.refl _ _|refine zd ?_|refine zg ?_ _|refine zb ?_ (by assumption)))⟩) ?_
 dsimp only[zt,zG]
 repeat (first|(refine zu rfl (fun K hK=>?_);go_big_quiet_op;refine hK _ ?_;clear hK K)|(refine zp rfl rfl (fun K hK=>?_);go_big_quiet_op;refine hK _ ?_;clear hK K)|(refine zE ?_;go_wp2_with (first|(go_at_call 84;refine (HCS.out _ (zb fB (zd (Below.refl _ _)))).mono ?_;rintro _ w1 ⟨rfl,hb1⟩)|(go_at_call 66;refine (zO _ _ _).mono ?_;rintro _ w2 ⟨rfl,rfl⟩)|(go_at_call 65;refine (zK _ _ _ _ _ (IC.new2 _ _ _ _)).mono ?_;rintro _ w4 ⟨rfl,rfl⟩));refine ⟨?_,?_⟩;focus (exact ⟨_,zi (by repeat (first|assumption|exact Below.refl _ _|refine zd ?_|refine zg ?_ _|refine zb ?_ (by assumption)))⟩)))
 refine zA _ _ _ rfl ?_
 dsimp only[List.map]
 go_wp2_with (first|(go_at_call 84;refine (HCS.out _ (zb fB (zd (Below.refl _ _)))).mono ?_;rintro _ w1 ⟨rfl,hb1⟩)|(go_at_call 66;refine (zO _ _ _).mono ?_;rintro _ w2 ⟨rfl,rfl⟩)|(go_at_call 65;refine (zK _ _ _ _ _ (IC.new2 _ _ _ _)).mono ?_;rintro _ w4 ⟨rfl,rfl⟩))
 refine NoPanic.normal ?_
 have hz:zz [0,zn false 2]=0:=rfl
 rw[hz]
 have hb2:Below W0.heap.size W0 (w1.alloc (.cells #[.int .i64 0,.int .i64 (zn false 2)] 34)):=zg (zb (zd (Below.refl _ _)) hb1) _
 generalize (w1.alloc (.cells #[.int .i64 0,.int .i64 (zn false 2)] 34))=w5 at hb2 ⊢
 clear x0 x1 x2 x3 xl y0 y1 yl hb1
 obtain ⟨x0,x1,x2,x3,xl⟩:=HX.out _ hb2
 go_wp2_with fail
 refine (HLE.out _ (zb fB hb2)).mono ?_
 rintro _ w6 ⟨rfl,hb6⟩
 clear x0 x1 x2 x3 xl
 obtain ⟨y0,y1,yl⟩:=HY.out _ (zb hb2 hb6)
 have hB6:=zb fB (zb hb2 hb6)
 cases cp with
 | false =>
  go_wp2_with (first|(go_at_call 66;refine (zO _ _ _).mono ?_;rintro _ w2 ⟨rfl,rfl⟩))
  go_ret
  exact ⟨rfl,hB6⟩
 | true =>
  cases lb with
  | false =>
   go_wp2_with (first|(go_at_call 66;refine (zO _ _ _).mono ?_;rintro _ w2 ⟨rfl,rfl⟩))
   go_ret
   exact ⟨rfl,hB6⟩
  | true =>
   go_wp2_with (first|(go_at_call 66;refine (zO _ _ _).mono ?_;rintro _ w2 ⟨rfl,rfl⟩))
   go_ret
   exact ⟨rfl,hB6⟩
end
end Go.Proofs.YtaadpihbjhachaaGreat
