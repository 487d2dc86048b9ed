/- Texts B20 to O4 of this proof, in one file. -/
import Derived.Test.YtaadpihbjhachaaGreatW10
import Derived.Test.YtaadpihbjhachaaGreatW16
import Derived.Test.YtaadpihbjhachaaGreatW18
import Derived.Test.YtaadpihbjhachaaGreatW20
import Derived.Test.YtaadpihbjhachaaGreatW23
import Derived.Test.YtaadpihbjhachaaGreatW24
import Derived.Test.YtaadpihbjhachaaGreatW26
namespace Go.Proofs.YtaadpihbjhachaaGreat
set_option maxRecDepth 100000
set_option maxHeartbeats 16000000
section
open Go Go.RowKit
attribute [local go_sem] over_cell
attribute [local go_sem] Oper.semAt_some
theorem movetree_c {ls:List (List Int)} {sum:Int} {g:List Int} {n':Nat} (G:GoodTask (n':Int) ls sum g) (hte:taskErr (n':Int) ls sum g=0) (a:Option Addr) (n c:Nat) (a':Option Addr) (c':Nat) (ap:Option Addr) (cap:Nat) (p:List Int) (cp:Bool) (at':Option Addr) (nt ct f:Nat) (w:World)
  (h:RC w a n ls) (hcap:n≤c) (h':IC w a' n' g) (hcap':n'≤c') (hp:IC w ap n' p) (hpe:permE p=0) (htc:TC w at' nt (madeT ls sum f g)) (hok:okTB ls sum f g=true) (htr:treeErr n' (madeT ls sum f g)=0) (hpr:provesT ls sum g (madeT ls sum f g)=true) (hlv:(cp&&!levelB ls)=false) (hnt:nt≤2000) :
  Calls Tryz.prog 18 #[.agg #[.int .i64 (n':Int),.slice a n c,.int .i64 sum,.slice a' n' c'],.slice at' nt ct,.agg #[.slice ap n' cap,.bool cp]] w fun e w'=>∃ar nr cr,e = .returned (.tuple #[.slice ar nr cr,.int .i64 0])∧TC w' ar nr (movT ls sum cp p f g)∧nr≤cr∧Below w.heap.size w w':=by
 have HTK:Hid (∀W,Below w.heap.size w W→Calls Tryz.prog 56 #[.agg #[.int .i64 (n':Int),.slice a n c,.int .i64 sum,.slice a' n' c']] W fun e w'=>e = .returned (.int .i64 0)∧Below W.heap.size W w'):=fun W hb=>by
  have:=task_c a n c ls (n':Int) sum a' n' c' g W (h.mono hb) hcap (h'.mono hb) hcap'
  rw[hte] at this
  exact this
 have HTR:Hid (∀W,Below w.heap.size w W→Calls Tryz.prog 75 #[.agg #[.int .i64 (n':Int),.slice a n c,.int .i64 sum,.slice a' n' c'],.slice at' nt ct] W fun e w'=>e = .returned (.int .i64 0)∧Below W.heap.size W w'):=fun W hb=>by
  have:=tree_c (.int .i64 (n':Int)) (.slice a n c) (.int .i64 sum) a' n' c' at' nt ct _ W (htc.mono hb)
  rw[htr] at this
  exact this
 have HPR:Hid (∀W,Below w.heap.size w W→Calls Tryz.prog 76 #[.agg #[.int .i64 (n':Int),.slice a n c,.int .i64 sum,.slice a' n' c'],.slice at' nt ct] W fun e w'=>e = .returned (.bool true)∧Below W.heap.size W w'):=fun W hb=>by
  have:=proves_c G a n c a' n' c' at' nt ct _ W (h.mono hb) (h'.mono hb) (htc.mono hb)
  rw[hpr] at this
  exact this
 have HMV:Hid (∀W,Below w.heap.size w W→Calls Tryz.prog 57 #[.agg #[.int .i64 (n':Int),.slice a n c,.int .i64 sum,.slice a' n' c'],.agg #[.slice ap n' cap,.bool cp]] W fun e w'=>e = .returned (.int .i64 0)∧Below W.heap.size W w'):=fun W hb=>by
  have:=cmove_c a n c ls sum a' n' c' ap cap p cp W (h.mono hb) (hp.mono hb) hpe
  rw[hlv] at this
  exact this
 have hn2:n'≤256:=by have:=G.glen;have:=h'.len;omega
 have hgl:=h'.len
 have hgl1:0<n':=by have:=G.len;have:=G.cells1;omega
 have HCL:=Lib.hid (fun W (hb:Below w.heap.size w W)=>clone_c a' n' c' g W (h'.mono hb))
 have HRC:=Lib.hid h
 have HP:=Lib.hid hp
 have HTC:=Lib.hid htc
 have HOK:=Lib.hid hok
 have HG:=Lib.hid G
 have HML:Hid ((movT ls sum cp p f g).length≤2000):=by unfold Hid;rw[movT_len];have:=htc.1.1;omega
 clear h h' hp htc hok htr hpr hlv hte hpe G
 go_enter Tryz.func18,Tryz.ntmps18
 go_upto_region 1 with fail
 have fsz:((w.alloc (.cells #[.int .i64 (n':Int),.slice a n c,.int .i64 sum,.slice a' n' c'] 27)).alloc (.cells #[.slice ap n' cap,.bool cp] 29)).heap.size=w.heap.size+2:=by simp only[World.size_alloc] <;> omega
 have fB:Below w.heap.size w ((w.alloc (.cells #[.int .i64 (n':Int),.slice a n c,.int .i64 sum,.slice a' n' c'] 27)).alloc (.cells #[.slice ap n' cap,.bool cp] 29)):=((Below.refl _ _).alloc (Nat.le_refl _) _).alloc (by simp only[World.size_alloc];omega) _
 have fq0:((w.alloc (.cells #[.int .i64 (n':Int),.slice a n c,.int .i64 sum,.slice a' n' c'] 27)).alloc (.cells #[.slice ap n' cap,.bool cp] 29)).heap[w.heap.size]?=some (.cells #[.int .i64 (n':Int),.slice a n c,.int .i64 sum,.slice a' n' c'] 27 (0,0)):=by have h:=World.alloc_heap_new w (.cells #[.int .i64 (n':Int),.slice a n c,.int .i64 sum,.slice a' n' c'] 27);exact (Below.heap_alloc _ _ _ (by simp only[World.size_alloc];omega)).trans (h)
 have fq1:((w.alloc (.cells #[.int .i64 (n':Int),.slice a n c,.int .i64 sum,.slice a' n' c'] 27)).alloc (.cells #[.slice ap n' cap,.bool cp] 29)).heap[w.heap.size+1]?=some (.cells #[.slice ap n' cap,.bool cp] 29 (0,0)):=by have h:=World.alloc_heap_new (w.alloc (.cells #[.int .i64 (n':Int),.slice a n c,.int .i64 sum,.slice a' n' c'] 27)) (.cells #[.slice ap n' cap,.bool cp] 29);simp only[World.size_alloc] at h;exact h
 generalize ((w.alloc (.cells #[.int .i64 (n':Int),.slice a n c,.int .i64 sum,.slice a' n' c'] 27)).alloc (.cells #[.slice ap n' cap,.bool cp] 29))=W0 at fsz fB fq0 fq1 ⊢
 have HX:=Lib.hid (fun W (hb:Below W0.heap.size W0 W)=>l4 (keepq hb fq0))
 have HQ0:=Lib.hid fq0
 have HY:=Lib.hid (fun W (hb:Below W0.heap.size W0 W)=>(And.intro (q_cell (keepq hb fq1) 0) (And.intro (q_cell (keepq hb fq1) 1) (q_lt (keepq hb fq1))):W.cell? ⟨w.heap.size+1,0,none⟩=some (.slice ap n' cap)∧W.cell? ⟨w.heap.size+1,1,none⟩=some (.bool cp)∧w.heap.size+1<W.heap.size))
 have HY0:=Lib.hid fq1
 have hW0:w.heap.size+1<W0.heap.size:=by omega
 obtain ⟨x0,x1,x2,x3,xl⟩:=HX.out _ (Below.refl _ _)
 clear fq0 fq1 fsz
 go_wp2_with fail
 refine (HTK.out _ fB).mono ?_
 rintro _ w1 ⟨rfl,hb1⟩
 clear x0 x1 x2 x3 xl
 have hB1:=keep_trans fB hb1
 obtain ⟨x0,x1,x2,x3,xl⟩:=HX.out _ hb1
 obtain ⟨y0,y1,yl⟩:=HY.out _ hb1
 go_upto_region 4 with fail
 refine wp_region_S (fun w'=>∃u,w'=over (w1) u) [13,12,11,10] [(0,0),(0,1),(0,3),(0,4),(0,6),(0,7),(1,2),(1,5),(1,8),(0,9),(2,10),(2,11),(2,12),(2,13)] (by kernel_rfl) (by kernel_rfl) (by exact ⟨_,below_over (by repeat (first|assumption|exact Below.refl _ _|refine keep_drew ?_|refine keep_alloc ?_ _|refine keep_trans ?_ (by assumption)))⟩) ?_
 dsimp only[pickOps,nthOp]
 repeat (first|(refine wpS_skip rfl (fun K hK=>?_);go_big_quiet_op;refine hK _ ?_;clear hK K)|(refine wpS_quiet rfl rfl (fun K hK=>?_);go_big_quiet_op;refine hK _ ?_;clear hK K)|(refine wpS_loud ?_;go_wp2_with (first|(go_at_call 75;refine (HTR.out _ (keep_trans hB1 (keep_drew (Below.refl _ _)))).mono ?_;rintro _ w2 ⟨rfl,hb2⟩)|(go_at_call 57;refine (HMV.out _ (keep_trans hB1 (keep_trans (keep_drew (Below.refl _ _)) hb2))).mono ?_;rintro _ w3 ⟨rfl,hb3⟩)|(go_at_call 76;refine (HPR.out _ (keep_trans hB1 (keep_trans (keep_trans (keep_drew (Below.refl _ _)) hb2) hb3))).mono ?_;rintro _ w4 ⟨rfl,hb4⟩)|(go_at_call 66;refine (when_c _ _ _).mono ?_;rintro _ w5 ⟨rfl,rfl⟩)|(go_at_call 65;refine (first_c _ _ _ _ _ (IC.new3 _ _ _ _ _)).mono ?_;rintro _ w6 ⟨rfl,rfl⟩));refine ⟨?_,?_⟩;focus (exact ⟨_,below_over (by repeat (first|assumption|exact Below.refl _ _|refine keep_drew ?_|refine keep_alloc ?_ _|refine keep_trans ?_ (by assumption)))⟩)))
 refine wpS_late _ _ _ rfl ?_
 dsimp only[List.map]
 go_wp2_with (first|(go_at_call 75;refine (HTR.out _ (keep_trans hB1 (keep_drew (Below.refl _ _)))).mono ?_;rintro _ w2 ⟨rfl,hb2⟩)|(go_at_call 57;refine (HMV.out _ (keep_trans hB1 (keep_trans (keep_drew (Below.refl _ _)) hb2))).mono ?_;rintro _ w3 ⟨rfl,hb3⟩)|(go_at_call 76;refine (HPR.out _ (keep_trans hB1 (keep_trans (keep_trans (keep_drew (Below.refl _ _)) hb2) hb3))).mono ?_;rintro _ w4 ⟨rfl,hb4⟩)|(go_at_call 66;refine (when_c _ _ _).mono ?_;rintro _ w5 ⟨rfl,rfl⟩)|(go_at_call 65;refine (first_c _ _ _ _ _ (IC.new3 _ _ _ _ _)).mono ?_;rintro _ w6 ⟨rfl,rfl⟩))
 refine NoPanic.normal ?_
 have hz:firstL [0,0,whenV false 19]=0:=rfl
 rw[hz]
 have hb5:Below W0.heap.size W0 (w4.alloc (.cells #[.int .i64 0,.int .i64 0,.int .i64 (whenV false 19)] 34)):=keep_alloc (keep_trans hb1 (keep_trans (keep_trans (keep_trans (keep_drew (Below.refl _ _)) hb2) hb3) hb4)) _
 generalize (w4.alloc (.cells #[.int .i64 0,.int .i64 0,.int .i64 (whenV false 19)] 34))=w7 at hb5 ⊢
 clear x0 x1 x2 x3 xl y0 y1 yl hb1 hb2 hb3 hb4 hB1
 have hB7:=keep_trans fB hb5
 obtain ⟨x0,x1,x2,x3,xl⟩:=HX.out _ hb5
 have HQ7:=Lib.hid (keepq hb5 HQ0.out)
 have HY7:=Lib.hid (keepq hb5 HY0.out)
 go_wp2_with fail
 refine (HCL.out _ hB7).mono ?_
 rintro _ w5 ⟨v5,rfl,hown5,hb8⟩
 rw[hgl] at hown5
 obtain ⟨a5,c5,rfl⟩:=owns_shape hown5
 obtain ⟨gb,cur,rfl,hgb,_⟩:=owns_blk hown5 hgl1
 clear x0 x1 x2 x3 xl
 have hz7:=hB7.size
 have hz57:=hb5.size
 have hz8:=hb8.size
 have qT:=keepq hb8 HQ7.out
 have qY:=keepq hb8 HY7.out
 have z3:w5.cell? ⟨w.heap.size,3,none⟩=some (.slice a' n' c'):=q_cell qT 3
 have zf3:=q_free qT 3
 have zl:=q_lt qT
 go_upto_region 8 with fail
 have q6:=q_set (i:=3) qT (.slice (some ⟨gb,0,none⟩) n' c5)
 have y6:=q_other qY (b':=w.heap.size) (i:=3) (by omega) (.slice (some ⟨gb,0,none⟩) n' c5)
 have o6:(w5.setCell ⟨w.heap.size,3,none⟩ (.slice (some ⟨gb,0,none⟩) n' c5)).ownsRow 0 3 1 (.slice (some ⟨gb,0,none⟩) n' c5) n' (g.map (Value.int .i64)):=owns_keep (owns_base hown5 (Nat.zero_le _)) (fun i e _=>Below.heap_setCell _ _ _ _ (fun e2=>by simp only[Value.ownBlock,Option.some.injEq] at e;simp at e2;omega))
 have hB6:Below w.heap.size w (w5.setCell ⟨w.heap.size,3,none⟩ (.slice (some ⟨gb,0,none⟩) n' c5)):=(hB7.trans (hb8.mono hz7)).setCell (p:=⟨w.heap.size,3,none⟩) (Nat.le_refl _) _
 have hg6:gb<(w5.setCell ⟨w.heap.size,3,none⟩ (.slice (some ⟨gb,0,none⟩) n' c5)).heap.size:=(o6.lt gb rfl).2
 clear hown5 qT qY z3 zf3 zl HCL
 generalize (w5.setCell ⟨w.heap.size,3,none⟩ (.slice (some ⟨gb,0,none⟩) n' c5))=w6 at q6 y6 o6 hB6 hg6 ⊢
 replace q6:w6.heap[w.heap.size]?=some (.cells #[.int .i64 (n':Int),.slice a n c,.int .i64 sum,.slice (some ⟨gb,0,none⟩) n' c5] 27 (0,0)):=q6
 go_upto_region 9 with fail
 have ksz:(w6.alloc (.cells #[.slice at' nt ct,.int .i64 0] 129)).heap.size=w6.heap.size+1:=by simp only[World.size_alloc]
 have kB:Below w6.heap.size w6 (w6.alloc (.cells #[.slice at' nt ct,.int .i64 0] 129)):=(Below.refl _ _).alloc (Nat.le_refl _) _
 have kq0:(w6.alloc (.cells #[.slice at' nt ct,.int .i64 0] 129)).heap[w6.heap.size]?=some (.cells #[.slice at' nt ct,.int .i64 0] 129 (0,0)):=by have h:=World.alloc_heap_new w6 (.cells #[.slice at' nt ct,.int .i64 0] 129);exact h
 generalize (w6.alloc (.cells #[.slice at' nt ct,.int .i64 0] 129))=W7 at ksz kB kq0 ⊢
 have hz6:=hB6.size
 have hRT:RT w W7 w6.heap.size gb c5 at' nt ct 0 n' g:=⟨hB6.trans (kB.mono hz6),kq0,owns_keep o6 (fun i _ hl=>kB.block i hl),⟨by omega,by omega,by omega⟩⟩
 have HRT:=Lib.hid hRT
 have q7:=keepq kB q6
 have y7:=keepq kB y6
 have z0:W7.cell? ⟨w.heap.size,0,none⟩=some (.int .i64 (n':Int)):=q_cell q7 0
 have z1:W7.cell? ⟨w.heap.size,1,none⟩=some (.slice a n c):=q_cell q7 1
 have z2:W7.cell? ⟨w.heap.size,2,none⟩=some (.int .i64 sum):=q_cell q7 2
 have z3:W7.cell? ⟨w.heap.size,3,none⟩=some (.slice (some ⟨gb,0,none⟩) n' c5):=q_cell q7 3
 have zl:=q_lt q7
 have y0:W7.cell? ⟨w.heap.size+1,0,none⟩=some (.slice ap n' cap):=q_cell y7 0
 have y1:W7.cell? ⟨w.heap.size+1,1,none⟩=some (.bool cp):=q_cell y7 1
 have yl:=q_lt y7
 clear q6 y6 q7 y7 o6 kq0 ksz hRT
 have HMO:=Lib.hid (moved_c w w6.heap.size gb c5 a n c n' HRC.out hn2 at' nt ct (madeT ls sum f g) HTC.out hnt ap cap p cp HP.out f g 0 [] W7 HG.out (by rw[List.drop_zero,List.append_nil]) HOK.out HRT.out)
 go_wp2_with fail
 refine HMO.out.mono ?_
 rintro _ w9 ⟨v9,rfl,hown9,hrt9,_⟩
 obtain ⟨a9,c9,rfl⟩:=owns_slice4 hown9
 have htc9:=TC.of_owns hown9 (by have:=HML.out;omega)
 have hB9:=hrt9.below
 have HF9:=Lib.hid htc9
 clear z0 z1 z2 z3 zl y0 y1 yl hown9 htc9 hrt9 HMO
 go_wp2_with fail
 go_ret2
 exact ⟨a9,_,c9,rfl,HF9.out.1,HF9.out.2.1,hB9⟩
end
section
open Go Go.RowKit
theorem moved_open {cells cells':Int} {ls ls':List (List Int)} {sum sum':Int} {g:List Int} (G:GoodTask cells ls sum g) {p:List Int} (hp:PermP p) (hpl:p.length=g.length) {c:Bool} (G':GoodTask cells' ls' sum' (movG c p g)):(openL (movG c p g)).length=(openL g).length:=by
 rw[← G'.even,← G.even,moved_unused hp hpl (fun i hi=>by have:=G.num i hi;have:=G.len;omega),List.length_map,kidO_len]
structure MvF (n':Nat) (ls:List (List Int)) (sum:Int) (g:List Int) (cp:Bool) (p:List Int):Prop where
 good:GoodTask (n':Int) (ls.map (lineI p)) (cmS cp (n':Int) (lenV ls) sum) (movG cp p g)
 err:taskErr (n':Int) (ls.map (lineI p)) (cmS cp (n':Int) (lenV ls) sum) (movG cp p g)=0
 sys:sysErr (n':Int) (ls.map (lineI p))=0
 cntE:countE (n':Int) (ls.map (lineI p)) (cmS cp (n':Int) (lenV ls) sum) (movG cp p g)=0
 cntN:countN (n':Int) (ls.map (lineI p)) (cmS cp (n':Int) (lenV ls) sum) (movG cp p g)=((solsL ls sum g []).length:Int)
 cnt0:countE (n':Int) ls sum g=0∧countN (n':Int) ls sum g=((solsL ls sum g []).length:Int)
 few:(solsL ls sum g []).length≤5040
 sol:∀f,SolF ls sum g f→SolF (ls.map (lineI p)) (cmS cp (n':Int) (lenV ls) sum) (movG cp p g) (movF cp p f)∧isV (n':Int) (ls.map (lineI p)) (cmS cp (n':Int) (lenV ls) sum) (movG cp p g) (movF cp p f)=true∧solE (n':Int) (ls.map (lineI p)) (cmS cp (n':Int) (lenV ls) sum) (movG cp p g) (movF cp p f)=0
 lev:(cp&&!levelB ls)=false
 open5:(openL (movG cp p g)).length=(openL g).length
 refE:(solsL ls sum g []).length=0→refuteE (n':Int) ls sum g=0
 made:(solsL ls sum g []).length=0→okTB ls sum ((openL g).length+1) g=true∧(madeT ls sum ((openL g).length+1) g).length≤1957∧treeErr n' (madeT ls sum ((openL g).length+1) g)=0∧provesT ls sum g (madeT ls sum ((openL g).length+1) g)=true
 img:(solsL ls sum g []).length=0→(movT ls sum cp p ((openL g).length+1) g).length≤1957∧treeErr n' (movT ls sum cp p ((openL g).length+1) g)=0∧provesT (ls.map (lineI p)) (cmS cp (n':Int) (lenV ls) sum) (movG cp p g) (movT ls sum cp p ((openL g).length+1) g)=true
theorem mvF_of {n':Nat} {ls:List (List Int)} {sum:Int} {g:List Int} {cp:Bool} {p:List Int} (G:GoodTask (n':Int) ls sum g) (hs:sysErr (n':Int) ls=0) (h5:(openL g).length≤6) (hpe:permE p=0) (hpl:p.length=n') (hgl:g.length=n') (hmv:mvE cp (n':Int) ls sum=0):MvF n' ls sum g cp p:=by
 have hp:=(perm_ok hpe).2
 have hpl2:p.length=g.length:=by rw[hpl,hgl]
 have hte:=taskErr_good G hs
 unfold mvE at hmv
 have hlv:(cp&&!levelB ls)=false:=by
  cases h:(cp&&!levelB ls) with
  | false=>rfl
  | true=>rw[h,if_pos rfl] at hmv;omega
 rw[hlv,if_neg (by decide)] at hmv
 have hb:¬(cmS cp (n':Int) (lenV ls) sum<1)∧¬(999999999<cmS cp (n':Int) (lenV ls) sum):=by
  by_cases h1:cmS cp (n':Int) (lenV ls) sum<1
  ·rw[decide_eq_true h1,Bool.true_or,if_pos rfl] at hmv;omega
  ·by_cases h2:999999999<cmS cp (n':Int) (lenV ls) sum
   ·rw[decide_eq_true h2,Bool.or_true,if_pos rfl] at hmv;omega
   ·exact ⟨h1,h2⟩
 have hn:cp=true→∀l,l∈ls→(l.length:Int)=lenV ls:=fun e=>level_len (by rw[e] at hlv;simpa using hlv)
 have hgn:((g.length:Nat):Int)=(n':Int):=by rw[hgl]
 have MS:=moved_sys G hs hp hpl2
 have G':GoodTask (n':Int) (ls.map (lineI p)) (cmS cp (n':Int) (lenV ls) sum) (movG cp p g):=moved_good G hs hp hpl2 (c:=cp) (by omega) (by omega)
 have hte':=taskErr_good G' MS.sys
 have hop:=moved_open G hp hpl2 (c:=cp) G'
 have hc:=count_ok hte (by omega)
 have hc':=count_ok hte' (by omega)
 have hmc:=moved_count G hs hp hpl2 (c:=cp) (n:=lenV ls) hn (by rw[hgn];omega) (by rw[hgn];omega)
 rw[hgn] at hmc
 refine ⟨G',hte',MS.sys,hc'.1,by rw[hc'.2.1,hmc],⟨hc.1,hc.2.1⟩,hc.2.2,fun f hf=>?_,hlv,hop,fun h0=>?_,fun h0=>?_,fun h0=>?_⟩
 ·have h1:=move_sol G hp hpl2 (c:=cp) (n:=lenV ls) hn hf
  rw[hgn] at h1
  obtain ⟨h2,h3,_⟩:=solF_solB G' h1
  have h4:solE (n':Int) (ls.map (lineI p)) (cmS cp (n':Int) (lenV ls) sum) (movG cp p g) (movF cp p f)=0:=by unfold solE;rw[if_neg (by simpa using hte'),h2]
  refine ⟨h1,?_,h4⟩
  unfold isV
  rw[if_neg (by simpa using h4),h3]
 ·unfold refuteE
  rw[small_zero hte (by omega),if_neg (by decide),if_pos h0]
 ·have:=made_all G h5 h0 rfl
  rw[hgl] at this
  exact this
 ·have:=moved_all G h5 h0 hp hpl2 (c:=cp) (n:=lenV ls) hn
  rw[hgl] at this
  exact this
end
section
open Go Go.RowKit Go.ChangeShapes Go.WideShapes
theorem O4.cellsY:Tryz.prog.cellsOf 29=2:=by kernel_rfl
section
variable {H:Type} {enc:TypeId × Value→H} {w:World} {held:Bool}
theorem open_sym {base:Nat} {v:Value} {d:DataW H} {p:List MemPlace} (hv:Value.okWide Tryz.prog w .any base 29 v) (h:DataW.Trod enc Tryz.prog w 0 (fun _=>true) held 29 v d p) (hz:∀n∈d.weights Tryz.prog 29,n≤reachBytes) :
  ∃(a:Option Addr) (n c:Nat) (P:List Int) (b:Bool),v = .agg #[.slice a n c,.bool b]∧n≤c∧IC w a n P:=by
 obtain ⟨cs,rfl,hsz⟩:=okWide_struct Tryz.underlying29 hv
 obtain ⟨c0,c1,rfl⟩:=Go.Joins.array2 (hsz.trans O4.cellsY)
 obtain ⟨fuel,hf⟩:=h
 obtain ⟨y0,y1,m,hx,_,h0,h1⟩:=trod_struct2 Tryz.underlying29 hf
 have h0':DataW.trod enc Tryz.prog w 0 (fun _=>true) held m 25 [c0]=some y0:=by simpa [Value.cells,O1.cells25] using h0
 have h1':DataW.trod enc Tryz.prog w 0 (fun _=>true) held m 4 [c1]=some y1:=by simpa [Value.cells,O3.cellsB] using h1
 simp only[Prod.mk.injEq] at hx
 obtain ⟨rfl,rfl⟩:=hx
 have hwz:∀n,n∈y0.1.weights Tryz.prog 25→n≤reachBytes:=by
  intro n hn
  refine hz n ?_
  simp only[DataW.weights,Tryz.underlying29,List.map_cons,List.map_nil,DataW.weightsEach,List.mem_append]
  exact .inl hn
 obtain ⟨a,n,c,P,rfl,hc,hP⟩:=O1.ints h0' hwz
 obtain ⟨b,e2,_⟩:=DataW.trod_bool Tryz.underlying4 h1'
 simp only[List.cons.injEq,and_true] at e2
 exact ⟨a,n,c,P,b,by rw[e2],hc,hP⟩
end
end
end Go.Proofs.YtaadpihbjhachaaGreat
