/- Texts J168 to J168 of this proof, in one file. -/
import Derived.Test.YtmfpdakaeagdpaaGreatW01
import Derived.Test.YtmfpdakaeagdpaaGreatW02
import Derived.Test.YtmfpdakaeagdpaaGreatW03
import Derived.Test.YtmfpdakaeagdpaaGreatW04
import Derived.Test.YtmfpdakaeagdpaaGreatW05
import Derived.Test.YtmfpdakaeagdpaaGreatW06
import Derived.Test.YtmfpdakaeagdpaaGreatW07
import Derived.Test.YtmfpdakaeagdpaaGreatW08
import Derived.Test.YtmfpdakaeagdpaaGreatW09
import Derived.Test.YtmfpdakaeagdpaaGreatW10
import Derived.Test.YtmfpdakaeagdpaaGreatW11
import Derived.Test.YtmfpdakaeagdpaaGreatW12
import Derived.Test.YtmfpdakaeagdpaaGreatW13
import Derived.Test.YtmfpdakaeagdpaaGreatW14
import Derived.Test.YtmfpdakaeagdpaaGreatW15
import Derived.Test.YtmfpdakaeagdpaaGreatW16
import Derived.Test.YtmfpdakaeagdpaaGreatW17
import Derived.Test.YtmfpdakaeagdpaaGreatW18
import Derived.Test.YtmfpdakaeagdpaaGreatW19
import Derived.Test.YtmfpdakaeagdpaaGreatW20
import Derived.Test.YtmfpdakaeagdpaaGreatW21
import Derived.Test.YtmfpdakaeagdpaaGreatW22
import Derived.Test.YtmfpdakaeagdpaaGreatW23
import Derived.Test.YtmfpdakaeagdpaaGreatW24
import Derived.Test.YtmfpdakaeagdpaaGreatW25
import Derived.Test.YtmfpdakaeagdpaaGreatW26
import Derived.Test.YtmfpdakaeagdpaaGreatW27
import Derived.Test.YtmfpdakaeagdpaaGreatX31n01
import Derived.Test.YtmfpdakaeagdpaaGreatX31n02
import Derived.Below
import Derived.BigFrame
import Derived.BigQuiet
import Derived.Deep.CutBlock
import Derived.Deep.CutRange
import Derived.Deep.LoopGhost
import Derived.Deep.Quiet
import Derived.Deep.RegionHeld3
import Derived.DeepKeys4
import Derived.KernelRfl
import Derived.Laws.BitsAllLaws
import Derived.Laws.EntriesVeiled
import Derived.Lib.AppendZeros
import Derived.Lib.Hide
import Derived.Lib.SlKeysI
import Derived.Lib.SliceRun
import Derived.LoopIn
import Derived.LoopNIn
import Derived.Maps.AppendAt
import Derived.Maps.OwnIn
import Derived.Maps.OwnSet
import Derived.OneCell
import Derived.OrdersHeld
import Derived.OrdersIn
import Derived.OwnWalkIn
import Derived.RangeFuncBound
import Derived.RangeFuncBox
import Derived.RangeFuncCalls
import Derived.RangeFuncLeaves
import Derived.RangeFuncNested
import Derived.RangeFuncWrites
import Derived.Shelf.Abstract
import Derived.Shelf.SortM.Plain
import Derived.Still
import Derived.TacticsIn
import Derived.TacticsInMore
import Derived.Test.YtmfpdakaeagdpaaGreatProg
import Derived.WalkKit
import Derived.WalkLawsBesides
import Derived.WalkSpells
import Derived.WideKeyPair
namespace Go.Proofs.YtmfpdakaeagdpaaGreat
set_option maxRecDepth 100000
set_option maxHeartbeats 16000000
section
open Go Go.RowKit
attribute [local go_sem] over_cell
attribute [local go_sem] Oper.semAt_some
def rowN (W:World) (b:Nat):Nat:=match W.cell? ⟨b,0,none⟩ with|some v=>(intOf v).toNat|none=>0
theorem rowN_eq {W:World} {b k:Nat} {x y:Value} {T:TypeId} (h:W.heap[b]?=some (.cells #[.int .i64 (k:Int),x,y] T (0,0))):rowN W b=k:=by
 have:=(c3_of h).1
 unfold rowN
 rw[this]
 simp[intOf]
theorem ext_law {K R n c:Nat} {a:Option Addr} {X:List Int} (h1:1≤K) (h2:K≤16) (H:Rect K R X) (hlt:R<K) (hcap:n≤c):∃row,Rect K (R+1) (X++row)∧∀w:World,IC w a n X→Calls Tryz.prog 40 #[.agg #[.int .i64 (R:Int),.int .i64 (K:Int),.slice a n c]] w fun e w'=>∃a2 c2,e = .returned (.tuple #[.agg #[.int .i64 ((R:Int)+1),.int .i64 (K:Int),.slice a2 (X++row).length c2],.int .i64 0])∧IC w' a2 (X++row).length (X++row)∧(∀b2 o2,a2=some ⟨b2,o2,none⟩→w.heap.size≤b2)∧(X++row).length≤c2∧Below w.heap.size w w':=by
 obtain ⟨row,hE,hL,hR⟩:=rect_ext h1 h2 H hlt
 refine ⟨row,hR,fun w hi=>?_⟩
 have h9:=extend_c (R:Int) (K:Int) a n c X w hi hcap
 rw[hE,hL,if_pos rfl,if_pos rfl] at h9
 refine h9.mono fun e w' hg=>?_
 have hlen:(X++row).length≤1000:=by
  rw[hR.len]
  have:=Nat.mul_le_mul (show R+1≤16 by omega) h2
  omega
 obtain ⟨a2,c2,he,ho,hb⟩:=hg
 obtain ⟨a3,c3,he3,hi3,hc3,_⟩:=gv_of ⟨a2,c2,he,ho,hb⟩ hlen
 rw[he] at he3
 simp only[Ending.returned.injEq,Value.tuple.injEq,Array.mk.injEq,List.cons.injEq,Value.agg.injEq,Value.slice.injEq,true_and,and_true] at he3
 obtain ⟨rfl,rfl⟩:=he3
 refine ⟨a2,c2,he,hi3,fun b2 o2 e2=>?_,hc3,hb⟩
 rcases Nat.lt_or_ge b2 w.heap.size with hlt2|hge
 ·exact absurd rfl (ne_of_own ho hlt2 b2 o2 e2)
 ·exact hge
theorem rect_nil_of {K R n:Nat} {cs:List Int} (h:exB (R:Int) (K:Int) cs=true) (h2:symE 0 K cs=0) (hl:cs.length=n):1≤K∧K≤16∧R≤K∧n=R*K∧Rect K R cs:=by
 unfold exB at h
 simp only[Bool.and_eq_true,decide_eq_true_eq] at h
 obtain ⟨⟨⟨⟨b1,b2⟩,b3⟩,b4⟩,b5⟩:=h
 have h5:cs.length=R*K:=by rw[← Int.natCast_mul] at b5;omega
 exact ⟨by omega,by omega,by omega,by omega,rect_of h5 (by omega) h2⟩
theorem lfills_g1 (r C:Int) (a:Option Addr) (n c:Nat) (r2 C2:Int) (a2:Option Addr) (n2 c2:Nat) (w:World) (h0:25<n):Calls Tryz.prog 8 #[.agg #[.int .i64 r,.int .i64 C,.slice a n c],.agg #[.int .i64 r2,.int .i64 C2,.slice a2 n2 c2]] w fun e w'=>e = .returned (.bool true)∧Below w.heap.size w w':=by
 have hg0:decide ((25:Int)<(n:Int))=true:=decide_eq_true (by omega)
 go_enter Tryz.func8,Tryz.ntmps8
 go_upto_region 1 with fail
 have fsz:((w.alloc (.cells #[.int .i64 r,.int .i64 C,.slice a n c] 24)).alloc (.cells #[.int .i64 r2,.int .i64 C2,.slice a2 n2 c2] 24)).heap.size=w.heap.size+2:=by simp only[World.size_alloc] <;> omega
 have fB:Below w.heap.size w ((w.alloc (.cells #[.int .i64 r,.int .i64 C,.slice a n c] 24)).alloc (.cells #[.int .i64 r2,.int .i64 C2,.slice a2 n2 c2] 24)):=((Below.refl _ _).alloc (Nat.le_refl _) _).alloc (by simp only[World.size_alloc];omega) _
 have fq0:((w.alloc (.cells #[.int .i64 r,.int .i64 C,.slice a n c] 24)).alloc (.cells #[.int .i64 r2,.int .i64 C2,.slice a2 n2 c2] 24)).heap[w.heap.size]?=some (.cells #[.int .i64 r,.int .i64 C,.slice a n c] 24 (0,0)):=by have h:=World.alloc_heap_new w (.cells #[.int .i64 r,.int .i64 C,.slice a n c] 24);exact (Below.heap_alloc _ _ _ (by simp only[World.size_alloc];omega)).trans (h)
 have fq1:((w.alloc (.cells #[.int .i64 r,.int .i64 C,.slice a n c] 24)).alloc (.cells #[.int .i64 r2,.int .i64 C2,.slice a2 n2 c2] 24)).heap[w.heap.size+1]?=some (.cells #[.int .i64 r2,.int .i64 C2,.slice a2 n2 c2] 24 (0,0)):=by have h:=World.alloc_heap_new (w.alloc (.cells #[.int .i64 r,.int .i64 C,.slice a n c] 24)) (.cells #[.int .i64 r2,.int .i64 C2,.slice a2 n2 c2] 24);simp only[World.size_alloc] at h;exact h
 generalize ((w.alloc (.cells #[.int .i64 r,.int .i64 C,.slice a n c] 24)).alloc (.cells #[.int .i64 r2,.int .i64 C2,.slice a2 n2 c2] 24))=W0 at fsz fB fq0 fq1 ⊢
 have Q0:=Lib.hid fq0
 have Q1:=Lib.hid fq1
 have HB:=Lib.hid fB
 clear fq0 fq1 fsz fB
 obtain ⟨x0,x1,x2,xl⟩:=c3_of Q0.out
 obtain ⟨y0,y1,y2,yl⟩:=c3_of Q1.out
 go_wp2_with (first|(go_at_call 19;refine (lgreat_c r C a n c 25 _).mono ?_;rintro _ g1 ⟨rfl,hbg1⟩)|(go_at_call 20;refine (awake4_c _).mono ?_;rintro _ wz ⟨rfl,hbz⟩)|fail)
 refine bodyPost_ret (v := .bool true) ?_ rfl ⟨rfl,keep_trans HB.out (keep_trans hbg1 hbz)⟩
 simp[results,Tryz.f8,go_sem]
theorem lfills_g2 (r C:Int) (a:Option Addr) (n c:Nat) (r2 C2:Int) (a2:Option Addr) (n2 c2:Nat) (w:World) (h0:¬25<n) (h1:25<n2):Calls Tryz.prog 8 #[.agg #[.int .i64 r,.int .i64 C,.slice a n c],.agg #[.int .i64 r2,.int .i64 C2,.slice a2 n2 c2]] w fun e w'=>e = .returned (.bool true)∧Below w.heap.size w w':=by
 have hg0:decide ((25:Int)<(n:Int))=false:=decide_eq_false (by omega)
 have hg1:decide ((25:Int)<(n2:Int))=true:=decide_eq_true (by omega)
 go_enter Tryz.func8,Tryz.ntmps8
 go_upto_region 1 with fail
 have fsz:((w.alloc (.cells #[.int .i64 r,.int .i64 C,.slice a n c] 24)).alloc (.cells #[.int .i64 r2,.int .i64 C2,.slice a2 n2 c2] 24)).heap.size=w.heap.size+2:=by simp only[World.size_alloc] <;> omega
 have fB:Below w.heap.size w ((w.alloc (.cells #[.int .i64 r,.int .i64 C,.slice a n c] 24)).alloc (.cells #[.int .i64 r2,.int .i64 C2,.slice a2 n2 c2] 24)):=((Below.refl _ _).alloc (Nat.le_refl _) _).alloc (by simp only[World.size_alloc];omega) _
 have fq0:((w.alloc (.cells #[.int .i64 r,.int .i64 C,.slice a n c] 24)).alloc (.cells #[.int .i64 r2,.int .i64 C2,.slice a2 n2 c2] 24)).heap[w.heap.size]?=some (.cells #[.int .i64 r,.int .i64 C,.slice a n c] 24 (0,0)):=by have h:=World.alloc_heap_new w (.cells #[.int .i64 r,.int .i64 C,.slice a n c] 24);exact (Below.heap_alloc _ _ _ (by simp only[World.size_alloc];omega)).trans (h)
 have fq1:((w.alloc (.cells #[.int .i64 r,.int .i64 C,.slice a n c] 24)).alloc (.cells #[.int .i64 r2,.int .i64 C2,.slice a2 n2 c2] 24)).heap[w.heap.size+1]?=some (.cells #[.int .i64 r2,.int .i64 C2,.slice a2 n2 c2] 24 (0,0)):=by have h:=World.alloc_heap_new (w.alloc (.cells #[.int .i64 r,.int .i64 C,.slice a n c] 24)) (.cells #[.int .i64 r2,.int .i64 C2,.slice a2 n2 c2] 24);simp only[World.size_alloc] at h;exact h
 generalize ((w.alloc (.cells #[.int .i64 r,.int .i64 C,.slice a n c] 24)).alloc (.cells #[.int .i64 r2,.int .i64 C2,.slice a2 n2 c2] 24))=W0 at fsz fB fq0 fq1 ⊢
 have Q0:=Lib.hid fq0
 have Q1:=Lib.hid fq1
 have HB:=Lib.hid fB
 clear fq0 fq1 fsz fB
 obtain ⟨x0,x1,x2,xl⟩:=c3_of Q0.out
 obtain ⟨y0,y1,y2,yl⟩:=c3_of Q1.out
 go_wp2_with (first|(go_at_call 19;(with_reducible refine (lgreat_c r C a n c 25 _).mono ?_);rintro _ g1 ⟨rfl,hbg1⟩;have hkg1:Below W0.heap.size W0 g1:=hbg1;obtain ⟨yg10,yg11,yg12,yg1l⟩:=c3_of (keepq hkg1 Q1.out))|(go_at_call 19;(with_reducible refine (lgreat_c r2 C2 a2 n2 c2 25 _).mono ?_);rintro _ g2 ⟨rfl,hbg2⟩)|(go_at_call 20;refine (awake4_c _).mono ?_;rintro _ wz ⟨rfl,hbz⟩)|fail)
 refine bodyPost_ret (v := .bool true) ?_ rfl ⟨rfl,keep_trans HB.out (keep_trans hbg1 (keep_trans hbg2 hbz))⟩
 simp[results,Tryz.f8,go_sem]
structure ComF (N:Nat) (ps:List Int) (n2 m:Nat) (css:List (List Int)):Prop where
 len:css.length=m
 m1:1≤m
 m2:m≤256
 lat:∀i,i<m→sqE 0 (N:Int) (N:Int) (css[i]?.getD [])=0
 ln:∀i,i<m→(css[i]?.getD []).length=n2
 has:∀i,i<m→∀k,k<n2→0≤ps[k]?.getD 0→(css[i]?.getD [])[k]?.getD 0=ps[k]?.getD 0
 asc:∀i,i+1<m→lexB (css[i]?.getD []) (css[i+1]?.getD [])=true
theorem comF {N n2:Nat} {ps:List Int} (Q:Part N ps) (hn:ps.length=n2) (hm:1≤((compP N okT (N*N) 0 ps).take 256).length):ComF N ps n2 ((compP N okT (N*N) 0 ps).take 256).length ((compP N okT (N*N) 0 ps).take 256):=by
 have hmem:∀i,i<((compP N okT (N*N) 0 ps).take 256).length→Latin N (((compP N okT (N*N) 0 ps).take 256)[i]?.getD [])∧HasG ps (((compP N okT (N*N) 0 ps).take 256)[i]?.getD []):=fun i hi=>by
  rw[List.getElem?_eq_getElem hi,Option.getD_some]
  exact comp_what Q (List.mem_of_mem_take (List.getElem_mem hi))
 refine ⟨rfl,hm,List.length_take_le _ _,fun i hi=>lat_sqE (hmem i hi).1,fun i hi=>by rw[(hmem i hi).1.len,← Q.len,hn],fun i hi k hk h0=>(hmem i hi).2.2 k h0 (by omega),fun i hi=>?_⟩
 have hs:=(comp_sorted (C:=N) (ok:=okT) (f:=N*N) (k:=0) (cs:=ps) (by rw[Q.len];omega)).sublist (List.take_sublist 256 _)
 rw[List.getElem?_eq_getElem (show i<_ by omega),List.getElem?_eq_getElem hi,Option.getD_some,Option.getD_some]
 exact List.pairwise_iff_getElem.1 hs i (i+1) (by omega) hi (by omega)
theorem com1 {N:Nat} {ps:List Int} (hm:1≤((compP N okT (N*N) 0 ps).take 256).length):(compP N okT (N*N) 0 ps).take 1=[((compP N okT (N*N) 0 ps).take 256)[0]?.getD []]:=by
 cases h:compP N okT (N*N) 0 ps with
 | nil=>rw[h] at hm;simp at hm
 | cons x l=>simp
theorem gl_addr {W:World} {a:Option Addr} {cnt n:Nat} {css:List (List Int)} (h:GL W a cnt n css) (h1:1≤cnt):∃b o,a=some ⟨b,o,none⟩:=by
 obtain ⟨b,off,_,_,e,_⟩:=h.2 0 (by omega)
 exact ⟨b,off,e⟩
theorem gl_at {W:World} {b o cnt n:Nat} {css:List (List Int)} (h:GL W (some ⟨b,o,none⟩) cnt n css) {k:Nat} (hk:k<cnt):∃a' c',b<W.heap.size∧W.cell? ⟨b,o+k*3,none⟩=some (.int .i64 (n:Int))∧W.cell? ⟨b,o+k*3+1,none⟩=some (.int .i64 (n:Int))∧W.cell? ⟨b,o+k*3+2,none⟩=some (.slice a' (css[k]?.getD []).length c')∧IC W a' (css[k]?.getD []).length (css[k]?.getD [])∧(css[k]?.getD []).length≤c':=by
 obtain ⟨b2,o2,a',c',e,h1,h2,h3,h4,h5,h6⟩:=h.2 k hk
 cases e
 exact ⟨a',c',h1,by rw[show o+k*3=o+3*k by omega];exact h2,by rw[show o+k*3+1=o+(3*k+1) by omega];exact h3,by rw[show o+k*3+2=o+(3*k+2) by omega];exact h4,h5,h6⟩
@[reducible] def fH (w:World) (N:Nat) (a2:Option Addr) (n2 c2:Nat) (lim:Int) (css:List (List Int)) (er:Int):Prop:=∀W,Below w.heap.size w W→Calls Tryz.prog 27 #[.agg #[.int .i64 (N:Int),.int .i64 (N:Int),.slice a2 n2 c2],.int .i64 lim] W fun e w'=>∃a5 c5,e = .returned (.tuple #[.slice a5 css.length c5,.int .i64 er])∧GL w' a5 css.length N css∧Below W.heap.size W w'
theorem fH_of {w:World} {N n2 c2:Nat} {a2:Option Addr} {ps:List Int} (Q:Part N ps) (h5:N≤7) (ho:opens ps≤25) (hi:IC w a2 n2 ps) (k:Nat) (k1:1≤k) (k2:k≤256):fH w N a2 n2 c2 (k:Int) ((compP N okT (N*N) 0 ps).take k) (whenV (decide (((compP N okT (N*N) 0 ps).take k).length=0)) 21):=fun W hb=>by
 have h9:=complete_c (N:Int) (N:Int) a2 n2 c2 ps (k:Int) W (hi.mono hb)
 obtain ⟨e1,e2⟩:=coL_small Q h5 ho k1 k2
 rw[e1,e2,Int.toNat_natCast] at h9
 exact h9
theorem less_fH {w:World} {N n2 c9:Nat} {a9:Option Addr} {ps qs:List Int} (Q:Part N ps) (h5:N≤5) (ho:opens ps≤10) (hq:qs=ps∨∃c,c<ps.length∧qs=ps.set c (-1)) (hm:1≤((compP N okT (N*N) 0 ps).take 256).length) (hi:IC w a9 n2 qs):∃css2,((compP N okT (N*N) 0 ps).take 256).length≤css2.length∧fH w N a9 n2 c9 256 css2 0:=by
 have h9:Part N qs∧opens qs≤25∧(compP N okT (N*N) 0 ps).length≤(compP N okT (N*N) 0 qs).length:=by
  rcases hq with rfl|⟨c,hc,rfl⟩
  ·exact ⟨Q,by omega,Nat.le_refl _⟩
  ·exact ⟨part_less Q hc,by have:=opens_set1 (-1) ps c;omega,less_le Q hc⟩
 obtain ⟨Q2,ho2,hle⟩:=h9
 have h3:=fH_of (c2:=c9) Q2 (by omega) ho2 hi 256 (by omega) (by omega)
 have hl:((compP N okT (N*N) 0 ps).take 256).length≤((compP N okT (N*N) 0 qs).take 256).length:=by rw[List.length_take,List.length_take];omega
 rw[decide_eq_false (show ¬((compP N okT (N*N) 0 qs).take 256).length=0 by omega)] at h3
 exact ⟨_,hl,h3⟩
theorem lfills_c (r C:Int) (a:Option Addr) (n c:Nat) (cs:List Int) (r2 C2:Int) (a2:Option Addr) (n2 c2:Nat) (ps:List Int) (w:World) (h:IC w a n cs) (hcap:n≤c) (h2:IC w a2 n2 ps) (_hcap2:n2≤c2):Calls Tryz.prog 8 #[.agg #[.int .i64 r,.int .i64 C,.slice a n c],.agg #[.int .i64 r2,.int .i64 C2,.slice a2 n2 c2]] w fun e w'=>e = .returned (.bool true)∧Below w.heap.size w w':=by
 by_cases g0:25<n
 ·exact lfills_g1 r C a n c r2 C2 a2 n2 c2 w g0
 by_cases q1:25<n2
 ·exact lfills_g2 r C a n c r2 C2 a2 n2 c2 w g0 q1
 have hg0:decide ((25:Int)<(n:Int))=false:=decide_eq_false (by omega)
 have hg1:decide ((25:Int)<(n2:Int))=false:=decide_eq_false (by omega)
 have hlr:=Lib.hid h.len
 have hlp:=Lib.hid h2.len
 have IR:=Lib.hid h
 have HP0:=Lib.hid h2
 have IP:=Lib.hid h2
 have hcapI:(n:Int)≤(c:Int):=by omega
 have HR:=Lib.hid (fun W (hb:Below w.heap.size w W)=>rcrect_c r C a n c cs W (h.mono hb) (by omega))
 have HA:=Lib.hid (fun W (hb:Below w.heap.size w W)=>rpart_c r2 C2 a2 n2 c2 ps W (h2.mono hb))
 have HN:=Lib.hid (fun W (hb:Below w.heap.size w W)=>ropen4_c r2 C2 a2 n2 c2 ps W (h2.mono hb) (by omega))
 have hre:Hid (reE r C cs=0→∃R K:Nat,r=(R:Int)∧C=(K:Int)∧1≤K∧K≤16∧R≤K∧n=R*K∧Rect K R cs):=fun e0=>by
  unfold reE at e0
  by_cases hb:exB r C cs=true
  ·rw[if_pos hb] at e0
   have hbb:=hb
   unfold exB at hbb
   simp only[Bool.and_eq_true,decide_eq_true_eq] at hbb
   obtain ⟨⟨⟨⟨b1,b2⟩,b3⟩,b4⟩,b5⟩:=hbb
   obtain ⟨R,rfl⟩:∃R:Nat,r=(R:Int):=⟨r.toNat,by omega⟩
   obtain ⟨K,rfl⟩:∃K:Nat,C=(K:Int):=⟨C.toNat,by omega⟩
   rw[Int.toNat_natCast] at e0
   exact ⟨R,K,rfl,rfl,rect_nil_of hb e0 hlr.out⟩
  ·rw[if_neg hb] at e0
   cases e0
 generalize reE r C cs=er at HR hre
 clear h h2
 go_enter Tryz.func8,Tryz.ntmps8
 go_upto_region 1 with fail
 have fsz:((w.alloc (.cells #[.int .i64 r,.int .i64 C,.slice a n c] 24)).alloc (.cells #[.int .i64 r2,.int .i64 C2,.slice a2 n2 c2] 24)).heap.size=w.heap.size+2:=by simp only[World.size_alloc] <;> omega
 have fB:Below w.heap.size w ((w.alloc (.cells #[.int .i64 r,.int .i64 C,.slice a n c] 24)).alloc (.cells #[.int .i64 r2,.int .i64 C2,.slice a2 n2 c2] 24)):=((Below.refl _ _).alloc (Nat.le_refl _) _).alloc (by simp only[World.size_alloc];omega) _
 have fq0:((w.alloc (.cells #[.int .i64 r,.int .i64 C,.slice a n c] 24)).alloc (.cells #[.int .i64 r2,.int .i64 C2,.slice a2 n2 c2] 24)).heap[w.heap.size]?=some (.cells #[.int .i64 r,.int .i64 C,.slice a n c] 24 (0,0)):=by have h:=World.alloc_heap_new w (.cells #[.int .i64 r,.int .i64 C,.slice a n c] 24);exact (Below.heap_alloc _ _ _ (by simp only[World.size_alloc];omega)).trans (h)
 have fq1:((w.alloc (.cells #[.int .i64 r,.int .i64 C,.slice a n c] 24)).alloc (.cells #[.int .i64 r2,.int .i64 C2,.slice a2 n2 c2] 24)).heap[w.heap.size+1]?=some (.cells #[.int .i64 r2,.int .i64 C2,.slice a2 n2 c2] 24 (0,0)):=by have h:=World.alloc_heap_new (w.alloc (.cells #[.int .i64 r,.int .i64 C,.slice a n c] 24)) (.cells #[.int .i64 r2,.int .i64 C2,.slice a2 n2 c2] 24);simp only[World.size_alloc] at h;exact h
 generalize ((w.alloc (.cells #[.int .i64 r,.int .i64 C,.slice a n c] 24)).alloc (.cells #[.int .i64 r2,.int .i64 C2,.slice a2 n2 c2] 24))=W0 at fsz fB fq0 fq1 ⊢
 have Q0:=Lib.hid fq0
 have Q1:=Lib.hid fq1
 have HB:=Lib.hid fB
 clear fq0 fq1 fsz fB
 replace IR:=Lib.hid (IR.out.mono HB.out)
 replace IP:=Lib.hid (IP.out.mono HB.out)
 obtain ⟨x0,x1,x2,xl⟩:=c3_of Q0.out
 obtain ⟨y0,y1,y2,yl⟩:=c3_of Q1.out
 go_upto_region 3 with (first|(go_at_call 19;(with_reducible refine (lgreat_c r C a n c 25 _).mono ?_);rintro _ g1 ⟨rfl,hbg1⟩;have hkg1:Below W0.heap.size W0 g1:=hbg1;obtain ⟨yg10,yg11,yg12,yg1l⟩:=c3_of (keepq hkg1 Q1.out))|(go_at_call 19;(with_reducible refine (lgreat_c r2 C2 a2 n2 c2 25 _).mono ?_);rintro _ g2 ⟨rfl,hbg2⟩)|fail)
 clear x0 x1 x2 xl y0 y1 y2 yl yg10 yg11 yg12 yg1l
 have hmv:Below W0.heap.size W0 g2:=keep_trans hkg1 hbg2
 replace Q0:=Lib.hid (keepq hmv Q0.out)
 replace Q1:=Lib.hid (keepq hmv Q1.out)
 replace IR:=Lib.hid (IR.out.mono hmv)
 replace IP:=Lib.hid (IP.out.mono hmv)
 replace HB:=Lib.hid (keep_trans HB.out hmv)
 clear hmv hbg1 hkg1 hbg2 hg0 hg1
 obtain ⟨x0,x1,x2,xl⟩:=c3_of Q0.out
 go_cut [34] from 20 to 68 (fun s34 wx=>∃b:Bool,s34 = .bool b∧Hid (Below g2.heap.size g2 wx)∧Hid (b=true→er=0∧C≤5))
 case first =>
  by_cases he:er=0
  ·have he1:(er==0)=true:=by simpa using he
   by_cases h5:C≤5
   ·have d5:decide (C≤5)=true:=decide_eq_true h5
    go_wp2_with (first|(go_at_call 39;(with_reducible refine (HR.out _ HB.out).mono ?_);rintro _ k1 ⟨rfl,hbk1⟩;have hkk1:Below g2.heap.size g2 k1:=hbk1;obtain ⟨xk10,xk11,xk12,xk1l⟩:=c3_of (keepq hkk1 Q0.out))|fail)
    go_meet
    case rel=>exact ⟨true,rfl,hbk1,fun _=>⟨he,h5⟩⟩
   ·have d5:decide (C≤5)=false:=decide_eq_false h5
    go_wp2_with (first|(go_at_call 39;(with_reducible refine (HR.out _ HB.out).mono ?_);rintro _ k1 ⟨rfl,hbk1⟩;have hkk1:Below g2.heap.size g2 k1:=hbk1;obtain ⟨xk10,xk11,xk12,xk1l⟩:=c3_of (keepq hkk1 Q0.out))|fail)
    go_meet
    case rel=>exact ⟨false,rfl,hbk1,fun h=>absurd h (by decide)⟩
  ·have he1:(er==0)=false:=by simpa using he
   go_wp2_with (first|(go_at_call 39;(with_reducible refine (HR.out _ HB.out).mono ?_);rintro _ k1 ⟨rfl,hbk1⟩;have hkk1:Below g2.heap.size g2 k1:=hbk1;obtain ⟨xk10,xk11,xk12,xk1l⟩:=c3_of (keepq hkk1 Q0.out))|fail)
   go_meet
   case rel=>exact ⟨false,rfl,hbk1,fun h=>absurd h (by decide)⟩
 obtain ⟨b34,rfl,hbc,hB34⟩:=hcut
 rename World=>wA
 clear x0 x1 x2 xl
 have hmv:Below g2.heap.size g2 wA:=hbc.out
 replace Q0:=Lib.hid (keepq hmv Q0.out)
 replace Q1:=Lib.hid (keepq hmv Q1.out)
 replace IR:=Lib.hid (IR.out.mono hmv)
 replace IP:=Lib.hid (IP.out.mono hmv)
 replace HB:=Lib.hid (keep_trans HB.out hmv)
 clear hmv hbc
 obtain ⟨x0,x1,x2,xl⟩:=c3_of Q0.out
 go_upto_if 34 with (fail)
 go_cut [5,6,7] from 20 to 68 (fun _ _ _ wx=>Hid (Below wA.heap.size wA wx))
 case first =>
  cases b34 with
  | false =>
   go_wp2_with fail
   go_meet
   case rel=>exact Below.refl _ _
  | true =>
   obtain ⟨he,h5⟩:=hB34.out rfl
   obtain ⟨R,K,rfl,rfl,hK1,hK2,hRK,hnR,hRect⟩:=hre.out he
   have HRC:=Lib.hid hRect
   have HRK:=Lib.hid hnR
   clear he h5 hB34 hRect hnR hre
   go_upto_region 5 with fail
   have gsz:(wA.alloc (.cells #[.int .i64 (R:Int),.int .i64 (K:Int),.slice a n c] 24)).heap.size=wA.heap.size+1:=by simp only[World.size_alloc]
   have gB:Below wA.heap.size wA (wA.alloc (.cells #[.int .i64 (R:Int),.int .i64 (K:Int),.slice a n c] 24)):=(Below.refl _ _).alloc (Nat.le_refl _) _
   have gq0:(wA.alloc (.cells #[.int .i64 (R:Int),.int .i64 (K:Int),.slice a n c] 24)).heap[wA.heap.size]?=some (.cells #[.int .i64 (R:Int),.int .i64 (K:Int),.slice a n c] 24 (0,0)):=by have h:=World.alloc_heap_new wA (.cells #[.int .i64 (R:Int),.int .i64 (K:Int),.slice a n c] 24);exact h
   generalize (wA.alloc (.cells #[.int .i64 (R:Int),.int .i64 (K:Int),.slice a n c] 24))=V1 at gsz gB gq0 ⊢
   have GQ:=Lib.hid gq0
   have GB:=Lib.hid gB
   clear gsz gq0 gB x0 x1 x2 xl
   go_loopw [6,7] (fun _ _ wr=>∃(R9 n9 c9:Nat) (a9:Option Addr) (X:List Int),R≤R9∧R9≤K∧n9≤c9∧n≤n9∧Hid (wr.heap[wA.heap.size]?=some (.cells #[.int .i64 (R9:Int),.int .i64 (K:Int),.slice a9 n9 c9] 24 (0,0)))∧Hid (IC wr a9 n9 X)∧Hid (Rect K R9 X)∧Hid (X.take n=cs)∧Hid (Below wA.heap.size wA wr)) (fun _ _ wr=>K - rowN wr wA.heap.size)
   case atStart=>exact ⟨R,n,c,a,cs,Nat.le_refl _,hRK,hcap,Nat.le_refl _,GQ.out,IR.out.mono GB.out,HRC.out,by rw[← hlr.out];exact List.take_length,GB.out⟩
   case round =>
    obtain ⟨R9,n9,c9,a9,X,hR9,hK9,hc9,hn9,hq,hi,hrc,htk,hbr⟩:=hrel
    obtain ⟨x0,x1,x2,xl⟩:=c3_of (keepq hbr.out Q0.out)
    obtain ⟨y0,y1,y2,yl⟩:=c3_of hq.out
    by_cases hlt:R9<K
    ·have hltI:(R9:Int)<(K:Int):=by omega
     obtain ⟨row,hrc2,hcall⟩:=ext_law (n:=n9) (c:=c9) (a:=a9) hK1 hK2 hrc.out hlt hc9
     have HX:=Lib.hid (hcall wr hi.out)
     have htk2:Hid ((X++row).take n=cs):=by unfold Hid;rw[List.take_append_of_le_length (by rw[hi.out.len];exact hn9)];exact htk.out
     have hlen2:n≤(X++row).length:=by rw[List.length_append,hi.out.len];omega
     have HRC2:=Lib.hid hrc2
     have hmeas:=rowN_eq hq.out
     have HCK:=Lib.hid (fun W c8 a8 (hi8:IC W a8 (X++row).length (X++row))=>rcrect_c (((R9+1:Nat):Int)) (K:Int) a8 (X++row).length c8 (X++row) W hi8 (by rw[hrc2.len];have:=Nat.mul_le_mul (show R9+1≤16 by omega) hK2;omega))
     rw[rect_reE hK1 hK2 hrc2,show (((R9+1:Nat):Int))=(R9:Int)+1 by omega] at HCK
     have hlx:(X++row).length≤1000:=by rw[hrc2.len];have:=Nat.mul_le_mul (show R9+1≤16 by omega) hK2;omega
     generalize X++row=Y at HX htk2 hlen2 HRC2 HCK hlx
     have HLX:=Lib.hid hlx
     have HML:=Lib.hid hmeas
     clear hcall hrc2 hlx hmeas
     obtain ⟨ny,hny⟩:∃ny,ny=Y.length:=⟨_,rfl⟩
     rw[← hny] at HX HCK hlen2
     have HNY:=Lib.hid hny
     clear hny
     go_upto_region 7 with (first|(go_at_call 40;(with_reducible refine (HX.out).mono ?_);rintro _ w8 ⟨a8,c8,rfl,hi8,hf8,hc8,hb8⟩)|fail)
     have lsz:(w8.alloc (.cells #[.int .i64 ((R9:Int)+1),.int .i64 (K:Int),.slice a8 ny c8] 24)).heap.size=w8.heap.size+1:=by simp only[World.size_alloc]
     have lB:Below w8.heap.size w8 (w8.alloc (.cells #[.int .i64 ((R9:Int)+1),.int .i64 (K:Int),.slice a8 ny c8] 24)):=(Below.refl _ _).alloc (Nat.le_refl _) _
     have lq0:(w8.alloc (.cells #[.int .i64 ((R9:Int)+1),.int .i64 (K:Int),.slice a8 ny c8] 24)).heap[w8.heap.size]?=some (.cells #[.int .i64 ((R9:Int)+1),.int .i64 (K:Int),.slice a8 ny c8] 24 (0,0)):=by have h:=World.alloc_heap_new w8 (.cells #[.int .i64 ((R9:Int)+1),.int .i64 (K:Int),.slice a8 ny c8] 24);exact h
     generalize (w8.alloc (.cells #[.int .i64 ((R9:Int)+1),.int .i64 (K:Int),.slice a8 ny c8] 24))=V9 at lsz lB lq0 ⊢
     have hs8:=hb8.size
     have hql:=q_lt hq.out
     have hne8:w8.heap.size≠wA.heap.size:=by omega
     have LQ:=Lib.hid lq0
     have hb9:Below wr.heap.size wr V9:=keep_trans hb8 lB
     have HI9:=Lib.hid (hi8.mono lB)
     have HF8:=Lib.hid hf8
     have q9:=keepq hb9 hq.out
     have s9:=keepq hb9 (keepq hbr.out Q0.out)
     clear x0 x1 x2 xl y0 y1 y2 yl lsz lq0 lB hb8 hi8 hf8
     have HB9:=Lib.hid hb9
     obtain ⟨x0,x1,x2,xl⟩:=c3_of s9
     obtain ⟨y0,y1,y2,yl⟩:=c3_of q9
     obtain ⟨z0,z1,z2,zl⟩:=c3_of LQ.out
     have d1:((R9:Int)+1 != (R9:Int)+1)=false:=by simp
     have d2:((K:Int) != (K:Int))=false:=by simp
     have HCW:=Lib.hid (HCK.out V9 c8 a8 HI9.out)
     go_upto_region 9 with (first|(go_at_call 39;(with_reducible refine (HCW.out).mono ?_);rintro _ wB ⟨rfl,hb10⟩)|fail)
     have qB:=keepq hb10 q9
     have lB:=keepq hb10 LQ.out
     clear x0 x1 x2 xl y0 y1 y2 yl z0 z1 z2 zl
     obtain ⟨z0,z1,z2,zl⟩:=c3_of lB
     obtain ⟨y0,y1,y2,yl⟩:=c3_of qB
     obtain ⟨yf0,yf1,yf2⟩:=f3_of qB
     have g3:=st3_q (x0 := .int .i64 ((R9:Int)+1)) (x1 := .int .i64 (K:Int)) (x2 := .slice a8 ny c8) qB
     have hb3:=st3_below (x0 := .int .i64 ((R9:Int)+1)) (x1 := .int .i64 (K:Int)) (x2 := .slice a8 ny c8) (b:=wA.heap.size) (keep_trans hbr.out (keep_trans HB9.out hb10)) (Nat.le_refl _)
     have i3:=(HI9.out.mono hb10).st3 (x0 := .int .i64 ((R9:Int)+1)) (x1 := .int .i64 (K:Int)) (x2 := .slice a8 ny c8) (b:=wA.heap.size) (fun b o e=>by have:=HF8.out b o e;omega)
     clear hs8 hql qB
     go_wp2_with fail
     generalize (((wB.setCell ⟨wA.heap.size,0,none⟩ (.int .i64 ((R9:Int)+1))).setCell ⟨wA.heap.size,1,none⟩ (.int .i64 (K:Int))).setCell ⟨wA.heap.size,2,none⟩ (.slice a8 ny c8))=W9 at g3 hb3 i3 ⊢
     rw[show (R9:Int)+1=(((R9+1:Nat)):Int) by omega] at g3
     go_roundw
     case rel=>exact ⟨R9+1,ny,c8,a8,Y,by omega,by omega,hc8,hlen2,g3,i3,HRC2.out,htk2.out,hb3⟩
     case measure=>rw[rowN_eq g3,HML.out];omega
    ·have e:R9=K:=by omega
     have hltI:¬(R9:Int)<(K:Int):=by omega
     have hrcK:=hrc.out
     rw[e] at hrcK
     have HSQ:=Lib.hid (fun W (hb:Below wr.heap.size wr W)=>rcheck_c (R9:Int) (K:Int) a9 n9 c9 X W (hi.out.mono hb))
     rw[show sqE 0 (R9:Int) (K:Int) X=0 by rw[e];exact rect_square hK1 hK2 hrcK] at HSQ
     have HSM:=Lib.hid (fun W (hb:Below wr.heap.size wr W)=>same_c a9 a n n c9 c (X.take n) cs W (ic_take (hi.out.mono hb) hn9) (IR.out.mono (keep_trans hbr.out hb)))
     rw[htk.out,show sameB cs cs=true by simp[sameB]] at HSM
     have hn9I:(n:Int)≤(n9:Int):=by omega
     have hn9c:(n:Int)≤(c9:Int):=by omega
     clear e hrcK
     go_upto_region 10 with fail
     refine wp_region_S (fun w'=>∃u,w'=over (wr) u) [] [(0,0),(1,1),(0,2),(0,3),(0,4),(0,5),(0,6),(0,7),(0,8),(0,9),(0,10),(0,11),(1,12),(0,13),(0,14)] (by kernel_rfl) (by kernel_rfl) (by exact ⟨_,below_over (by repeat (first|assumption|exact Below.refl _ _|refine keep_drew ?_|refine keep_alloc ?_ _|refine keep_trans ?_ (by assumption)))⟩) ?_
     dsimp only[pickOps,nthOp]
     repeat (first|(refine wpS_skip rfl (fun K hK=>?_);go_big_quiet_op;refine hK _ ?_;clear hK K)|(refine wpS_quiet rfl rfl (fun K hK=>?_);go_big_quiet_op;refine hK _ ?_;clear hK K)|(refine wpS_loud ?_;go_wp2_with (first|(go_at_call 22;(with_reducible refine (HSQ.out _ (by (repeat (first|assumption|exact Below.refl _ _|refine keep_drew ?_|refine keep_alloc ?_ _|refine keep_trans ?_ (by assumption))))).mono ?_);rintro _ w10 ⟨rfl,hb10⟩)|(go_at_call 38;(with_reducible refine (HSM.out _ (by (repeat (first|assumption|exact Below.refl _ _|refine keep_drew ?_|refine keep_alloc ?_ _|refine keep_trans ?_ (by assumption))))).mono ?_);rintro _ w11 ⟨rfl,hb11⟩)|fail);refine ⟨?_,?_⟩;focus (exact ⟨_,below_over (by repeat (first|assumption|exact Below.refl _ _|refine keep_drew ?_|refine keep_alloc ?_ _|refine keep_trans ?_ (by assumption)))⟩)))
     refine wpS_end ?_
     have hbf:Below wA.heap.size wA w11:=keep_trans hbr.out (by (repeat (first|assumption|exact Below.refl _ _|refine keep_drew ?_|refine keep_alloc ?_ _|refine keep_trans ?_ (by assumption))))
     go_wp2_with fail
     go_meet
     case rel=>exact hbf
 have hbc:=hcut
 rename World=>wD
 clear x0 x1 x2 xl
 have hmv:Below wA.heap.size wA wD:=hbc.out
 replace Q0:=Lib.hid (keepq hmv Q0.out)
 replace Q1:=Lib.hid (keepq hmv Q1.out)
 replace IR:=Lib.hid (IR.out.mono hmv)
 replace IP:=Lib.hid (IP.out.mono hmv)
 replace HB:=Lib.hid (keep_trans HB.out hmv)
 clear hmv hbc
 clear Q0 IR HR hre hlr hB34 hcapI b34
 obtain ⟨y0,y1,y2,yl⟩:=c3_of Q1.out
 by_cases h0:sqE (-1) r2 C2 ps=0
 case neg =>
  have e1:(sqE (-1) r2 C2 ps != 0)=true:=by simpa using h0
  generalize sqE (-1) r2 C2 ps=ep at HA e1
  clear h0
  go_wp2_with (first|(go_at_call 25;(with_reducible refine (HA.out _ HB.out).mono ?_);rintro _ p1 ⟨rfl,hbp1⟩;have hkp1:Below wD.heap.size wD p1:=hbp1;obtain ⟨yp10,yp11,yp12,yp1l⟩:=c3_of (keepq hkp1 Q1.out))|(go_at_call 20;refine (awake4_c _).mono ?_;rintro _ wz ⟨rfl,hbz⟩)|fail)
  refine bodyPost_ret (v := .bool true) ?_ rfl ⟨rfl,keep_trans HB.out (keep_trans hkp1 hbz)⟩
  simp[results,Tryz.f8,go_sem]
 rw[h0] at HA
 obtain ⟨N,rfl,rfl,Q⟩:=sqE_part h0
 have hn2:n2=N*N:=by rw[← hlp.out];exact Q.len
 have hN1:=Q.n1
 have hN5:N≤5:=by
  by_cases h6:N≤5
  ·exact h6
  ·have:=Nat.mul_le_mul (show 6≤N by omega) (show 6≤N by omega)
   omega
 have hn21:1≤n2:=by rw[hn2];exact Nat.mul_pos hN1 hN1
 clear h0
 by_cases ho:10<opens ps
 ·have d1:decide ((10:Int)<(opens ps:Int))=true:=decide_eq_true (by omega)
  clear hn2
  generalize opens ps=op at HN d1
  go_wp2_with (first|(go_at_call 25;(with_reducible refine (HA.out _ HB.out).mono ?_);rintro _ p1 ⟨rfl,hbp1⟩;have hkp1:Below wD.heap.size wD p1:=hbp1;obtain ⟨yp10,yp11,yp12,yp1l⟩:=c3_of (keepq hkp1 Q1.out))|(go_at_call 26;(with_reducible refine (HN.out _ (keep_trans HB.out hkp1)).mono ?_);rintro _ p2 ⟨rfl,hbp2⟩;have hkp2:Below wD.heap.size wD p2:=keep_trans hkp1 hbp2)|(go_at_call 20;refine (awake4_c _).mono ?_;rintro _ wz ⟨rfl,hbz⟩)|fail)
  refine bodyPost_ret (v := .bool true) ?_ rfl ⟨rfl,keep_trans HB.out (keep_trans hkp2 hbz)⟩
  simp[results,Tryz.f8,go_sem]
 have d1:decide ((10:Int)<(opens ps:Int))=false:=decide_eq_false (by omega)
 have HC:Hid (fH w N a2 n2 c2 256 ((compP N okT (N*N) 0 ps).take 256) (whenV (decide (((compP N okT (N*N) 0 ps).take 256).length=0)) 21)):=fH_of (c2:=c2) Q (by omega) (by omega) HP0.out 256 (by omega) (by omega)
 have HCo:=Lib.hid (fH_of (c2:=c2) Q (by omega) (by omega) HP0.out 1 (by omega) (by omega))
 have HLS:=Lib.hid (fun W a9 c9 qs hq hm hi=>less_fH (w:=W) (n2:=n2) (c9:=c9) (a9:=a9) (qs:=qs) Q hN5 (by omega) hq hm hi)
 have HCF:=Lib.hid (fun hm=>comF Q hlp.out hm)
 have HCM:=Lib.hid (fun hm=>com1 (N:=N) (ps:=ps) hm)
 clear hn2 ho
 generalize opens ps=op at HN d1
 go_upto_region 14 with (first|(go_at_call 25;(with_reducible refine (HA.out _ HB.out).mono ?_);rintro _ p1 ⟨rfl,hbp1⟩;have hkp1:Below wD.heap.size wD p1:=hbp1;obtain ⟨yp10,yp11,yp12,yp1l⟩:=c3_of (keepq hkp1 Q1.out))|(go_at_call 26;(with_reducible refine (HN.out _ (keep_trans HB.out hkp1)).mono ?_);rintro _ p2 ⟨rfl,hbp2⟩;have hkp2:Below wD.heap.size wD p2:=keep_trans hkp1 hbp2)|fail)
 clear y0 y1 y2 yl yp10 yp11 yp12 yp1l
 have hmv:Below wD.heap.size wD p2:=hkp2
 replace Q1:=Lib.hid (keepq hmv Q1.out)
 replace IP:=Lib.hid (IP.out.mono hmv)
 replace HB:=Lib.hid (keep_trans HB.out hmv)
 clear hmv hbp1 hkp1 hbp2 hkp2 d1
 obtain ⟨y0,y1,y2,yl⟩:=c3_of Q1.out
 generalize (compP N okT (N*N) 0 ps).take 256=css at HC HLS HCF HCM
 by_cases hm0:css.length=0
 ·have e3:((css.length:Int)==0)=true:=by simp[hm0]
  rw[show whenV (decide (css.length=0)) 21=21 by rw[decide_eq_true hm0];rfl] at HC
  clear hm0
  go_wp2_with (first|(go_at_call 27;(with_reducible refine (HC.out _ HB.out).mono ?_);rintro _ p3 ⟨a5,c5,rfl,gl5,hbp3⟩)|(go_at_call 20;refine (awake4_c _).mono ?_;rintro _ wz ⟨rfl,hbz⟩)|fail)
  refine bodyPost_ret (v := .bool true) ?_ rfl ⟨rfl,keep_trans HB.out (keep_trans hbp3 hbz)⟩
  simp[results,Tryz.f8,go_sem]
 rw[show whenV (decide (css.length=0)) 21=0 by rw[decide_eq_false hm0];rfl] at HC
 have CF0:=HCF.out (by omega)
 have HC0:=HCM.out (by omega)
 rw[HC0] at HCo
 have HLS:=Lib.hid (fun W a9 c9 qs hq hi=>HLS.out W a9 c9 qs hq (by omega) hi)
 obtain ⟨m,hm⟩:∃m,m=css.length:=⟨_,rfl⟩
 rw[← hm] at CF0 HLS
 have HC2:Hid (∀W,Below w.heap.size w W→Calls Tryz.prog 27 #[.agg #[.int .i64 (N:Int),.int .i64 (N:Int),.slice a2 n2 c2],.int .i64 256] W fun e w'=>∃a5 c5,e = .returned (.tuple #[.slice a5 m c5,.int .i64 0])∧GL w' a5 m N css∧Below W.heap.size W w'):=by rw[hm];exact HC
 have HC1:Hid (∀W,Below w.heap.size w W→Calls Tryz.prog 27 #[.agg #[.int .i64 (N:Int),.int .i64 (N:Int),.slice a2 n2 c2],.int .i64 1] W fun e w'=>∃a5 c5,e = .returned (.tuple #[.slice a5 1 c5,.int .i64 0])∧GL w' a5 1 N [css[0]?.getD []]∧Below W.heap.size W w'):=HCo
 have hm1:=CF0.m1
 have hm2:=CF0.m2
 have CF:=Lib.hid CF0
 clear HC HCo HCF HCM hm0 hm HC0 CF0
 go_upto_region 15 with (first|(go_at_call 27;(with_reducible refine (HC2.out _ HB.out).mono ?_);rintro _ p3 ⟨a5,c5,rfl,gl5,hbp3⟩)|fail)
 obtain ⟨gb,go5,rfl⟩:=gl_addr gl5 hm1
 clear y0 y1 y2 yl
 have hmv:Below p2.heap.size p2 p3:=hbp3
 replace Q1:=Lib.hid (keepq hmv Q1.out)
 replace IP:=Lib.hid (IP.out.mono hmv)
 replace HB:=Lib.hid (keep_trans HB.out hmv)
 clear hmv
 have GF:=Lib.hid gl5
 clear hbp3 gl5
 go_wp2_with fail
 go_loopw [10,11,12,13,112,146] (fun _ _ _ _ s112 _ wr=>∃i:Nat,i≤m∧s112 = .int .i64 (i:Int)∧Hid (Below p3.heap.size p3 wr)) (fun _ _ _ _ s112 _ _=>m - (intOf s112).toNat)
 case atStart=>exact ⟨0,by omega,rfl,Below.refl _ _⟩
 case round =>
  obtain ⟨i,hi,rfl,hbr⟩:=hrel
  by_cases hlt:i<m
  ·have hii:(i:Int)<(m:Int):=by omega
   obtain ⟨ag,cg,hgl,k0,k1,k2,ki,kc⟩:=gl_at (GF.out.below hbr.out) hlt
   have hgl2:=CF.out.ln i hlt
   have HLA:=Lib.hid (CF.out.lat i hlt)
   have HHA:=Lib.hid (CF.out.has i hlt)
   have HAS:Hid (∀j,j+1=i→lexB (css[j]?.getD []) (css[i]?.getD [])=true):=fun j e=>by subst e;exact CF.out.asc j hlt
   generalize css[i]?.getD []=g at k2 ki kc hgl2 HLA HHA HAS
   rw[hgl2] at k2 ki
   clear hgl2
   have KI:=Lib.hid ki
   clear ki kc
   go_upto_region 20 with fail
   have lsz:(wr.alloc (.cells #[.int .i64 (N:Int),.int .i64 (N:Int),.slice ag n2 cg] 24)).heap.size=wr.heap.size+1:=by simp only[World.size_alloc]
   have lB:Below wr.heap.size wr (wr.alloc (.cells #[.int .i64 (N:Int),.int .i64 (N:Int),.slice ag n2 cg] 24)):=(Below.refl _ _).alloc (Nat.le_refl _) _
   have lq0:(wr.alloc (.cells #[.int .i64 (N:Int),.int .i64 (N:Int),.slice ag n2 cg] 24)).heap[wr.heap.size]?=some (.cells #[.int .i64 (N:Int),.int .i64 (N:Int),.slice ag n2 cg] 24 (0,0)):=by have h:=World.alloc_heap_new wr (.cells #[.int .i64 (N:Int),.int .i64 (N:Int),.slice ag n2 cg] 24);exact h
   generalize (wr.alloc (.cells #[.int .i64 (N:Int),.int .i64 (N:Int),.slice ag n2 cg] 24))=V19 at lsz lB lq0 ⊢
   have KI9:=Lib.hid (KI.out.mono lB)
   have LQ:=Lib.hid lq0
   have HB9:=Lib.hid (keep_trans hbr.out lB)
   have HCH:=Lib.hid (fun W (hb:Below V19.heap.size V19 W)=>rcheck_c (N:Int) (N:Int) ag n2 cg g W (KI9.out.mono hb))
   rw[HLA.out] at HCH
   clear lsz lq0 lB KI k0 k1 k2 hgl HLA
   obtain ⟨x0,x1,x2,xl⟩:=c3_of LQ.out
   obtain ⟨y0,y1,y2,yl⟩:=c3_of (keepq HB9.out Q1.out)
   have dN:((N:Int) != (N:Int))=false:=by simp
   by_cases hi0:i=0
   ·have dI:decide ((0:Int)<(i:Int))=false:=decide_eq_false (by omega)
    have dI2:¬(0:Int)<(i:Int):=by omega
    refine wp_region_S (fun w'=>∃u,w'=over (V19) u) [] [(0,0),(1,1),(0,2),(0,3),(0,4),(0,5),(0,6),(0,7),(0,8),(0,9),(0,10),(0,11),(0,12),(0,13),(0,14),(0,15),(0,16),(0,17),(0,18),(0,19),(0,20),(0,21),(1,22),(0,23),(0,24),(0,25)] (by kernel_rfl) (by kernel_rfl) (by exact ⟨_,below_over (by repeat (first|assumption|exact Below.refl _ _|refine keep_drew ?_|refine keep_alloc ?_ _|refine keep_trans ?_ (by assumption)))⟩) ?_
    dsimp only[pickOps,nthOp]
    repeat (first|(refine wpS_skip rfl (fun K hK=>?_);go_big_quiet_op;refine hK _ ?_;clear hK K)|(refine wpS_quiet rfl rfl (fun K hK=>?_);go_big_quiet_op;refine hK _ ?_;clear hK K)|(refine wpS_loud ?_;go_wp2_with (first|(go_at_call 22;(with_reducible refine (HCH.out _ (by (repeat (first|assumption|exact Below.refl _ _|refine keep_drew ?_|refine keep_alloc ?_ _|refine keep_trans ?_ (by assumption))))).mono ?_);rintro _ q1 ⟨rfl,hbq1⟩)|fail);refine ⟨?_,?_⟩;focus (exact ⟨_,below_over (by repeat (first|assumption|exact Below.refl _ _|refine keep_drew ?_|refine keep_alloc ?_ _|refine keep_trans ?_ (by assumption)))⟩)))
    refine wpS_end ?_
    have hb20:Below V19.heap.size V19 q1:=by (repeat (first|assumption|exact Below.refl _ _|refine keep_drew ?_|refine keep_alloc ?_ _|refine keep_trans ?_ (by assumption)))
    have QG:=Lib.hid (keepq hb20 LQ.out)
    have QP:=Lib.hid (keepq hb20 (keepq HB9.out Q1.out))
    have KG:=Lib.hid (KI9.out.mono hb20)
    have KP:=Lib.hid (IP.out.mono (keep_trans HB9.out hb20))
    have HBQ:=Lib.hid (keep_trans HB9.out hb20)
    clear x0 x1 x2 xl y0 y1 y2 yl hb20 dI dI2 hbq1
    obtain ⟨x0,x1,x2,xl⟩:=c3_of QG.out
    obtain ⟨y0,y1,y2,yl⟩:=c3_of QP.out
    go_wp2_with fail
    go_loopw [12,13,146] (fun _ _ s146 wr=>∃k:Nat,k≤n2∧s146 = .int .i64 (k:Int)∧Hid (Below q1.heap.size q1 wr)) (fun _ _ s146 _=>n2 - (intOf s146).toNat)
    case atStart=>exact ⟨0,by omega,rfl,Below.refl _ _⟩
    case round =>
     obtain ⟨k,hk,rfl,hbk⟩:=hrel
     clear x0 x1 x2 xl y0 y1 y2 yl
     obtain ⟨x0,x1,x2,xl⟩:=c3_of (keepq hbk.out QG.out)
     by_cases hltk:k<n2
     ·have hkk:(k:Int)<(n2:Int):=by omega
      obtain ⟨b1,o1,hae1,hl1,hc1⟩:=(KP.out.mono hbk.out).2 k hltk
      obtain ⟨b2,o2,hae2,hl2,hc2⟩:=(KG.out.mono hbk.out).2 k hltk
      subst hae1 hae2
      have hha:=HHA.out k hltk
      generalize ps[k]?.getD 0=pv at hc1 hha
      generalize g[k]?.getD 0=gv at hc2 hha
      by_cases hp0:0≤pv
      ·have hge:=hha hp0
       subst hge
       have dd:(gv != gv)=false:=by simp
       clear hha
       go_wp2_with fail
       go_roundw
       case rel=>exact ⟨k+1,by omega,by go_num,hbk⟩
       case measure=>simp[intOf];omega
      ·clear hha
       go_wp2_with fail
       go_roundw
       case rel=>exact ⟨k+1,by omega,by go_num,hbk⟩
       case measure=>simp[intOf];omega
     ·have hkk:¬(k:Int)<(n2:Int):=by omega
      go_wp2_with fail
      go_roundw
      case rel=>exact ⟨i+1,by omega,by go_num,keep_trans HBQ.out hbk.out⟩
      case measure=>simp[intOf];omega
   ·obtain ⟨j,hj⟩:∃j,j+1=i:=⟨i - 1,by omega⟩
    have dI:decide ((0:Int)<(i:Int))=true:=decide_eq_true (by omega)
    have dI2:(0:Int)<(i:Int):=by omega
    have dI3:decide (0<i)=true:=decide_eq_true (by omega)
    have dI4:0<i:=by omega
    have hij:(i:Int) - 1=(j:Int):=by omega
    have hjm:(j:Int)<(m:Int):=by omega
    obtain ⟨aj,cj,hgl,k0,k1,k2,ki,kc⟩:=gl_at (GF.out.below HB9.out) (show j<m by omega)
    have hgl2:=CF.out.ln j (by omega)
    have hlx:=HAS.out j hj
    generalize css[j]?.getD []=gj at k2 ki kc hgl2 hlx
    rw[hgl2] at k2 ki
    have HBE:=Lib.hid (fun W (hb:Below V19.heap.size V19 W)=>before_c aj ag n2 n2 cj cg gj g W (ki.mono hb) (KI9.out.mono hb))
    rw[hlx] at HBE
    clear hgl2 hlx ki kc HAS hj
    refine wp_region_S (fun w'=>∃u,w'=over (V19) u) [] [(0,0),(1,1),(0,2),(0,3),(0,4),(0,5),(0,6),(0,7),(0,8),(0,9),(0,10),(0,11),(0,12),(0,13),(0,14),(0,15),(0,16),(0,17),(0,18),(0,19),(0,20),(0,21),(1,22),(0,23),(0,24),(0,25)] (by kernel_rfl) (by kernel_rfl) (by exact ⟨_,below_over (by repeat (first|assumption|exact Below.refl _ _|refine keep_drew ?_|refine keep_alloc ?_ _|refine keep_trans ?_ (by assumption)))⟩) ?_
    dsimp only[pickOps,nthOp]
    repeat (first|(refine wpS_skip rfl (fun K hK=>?_);go_big_quiet_op;refine hK _ ?_;clear hK K)|(refine wpS_quiet rfl rfl (fun K hK=>?_);go_big_quiet_op;refine hK _ ?_;clear hK K)|(refine wpS_loud ?_;go_wp2_with (first|(go_at_call 22;(with_reducible refine (HCH.out _ (by (repeat (first|assumption|exact Below.refl _ _|refine keep_drew ?_|refine keep_alloc ?_ _|refine keep_trans ?_ (by assumption))))).mono ?_);rintro _ q1 ⟨rfl,hbq1⟩)|(go_at_call 42;(with_reducible refine (HBE.out _ (by (repeat (first|assumption|exact Below.refl _ _|refine keep_drew ?_|refine keep_alloc ?_ _|refine keep_trans ?_ (by assumption))))).mono ?_);rintro _ q2 ⟨rfl,hbq2⟩)|fail);refine ⟨?_,?_⟩;focus (exact ⟨_,below_over (by repeat (first|assumption|exact Below.refl _ _|refine keep_drew ?_|refine keep_alloc ?_ _|refine keep_trans ?_ (by assumption)))⟩)))
    refine wpS_end ?_
    have hb20:Below V19.heap.size V19 q2:=by (repeat (first|assumption|exact Below.refl _ _|refine keep_drew ?_|refine keep_alloc ?_ _|refine keep_trans ?_ (by assumption)))
    have QG:=Lib.hid (keepq hb20 LQ.out)
    have QP:=Lib.hid (keepq hb20 (keepq HB9.out Q1.out))
    have KG:=Lib.hid (KI9.out.mono hb20)
    have KP:=Lib.hid (IP.out.mono (keep_trans HB9.out hb20))
    have HBQ:=Lib.hid (keep_trans HB9.out hb20)
    clear x0 x1 x2 xl y0 y1 y2 yl hb20 dI dI2 dI3 dI4 hbq1 hbq2 hij hjm k0 k1 k2 hgl
    obtain ⟨x0,x1,x2,xl⟩:=c3_of QG.out
    obtain ⟨y0,y1,y2,yl⟩:=c3_of QP.out
    go_wp2_with fail
    go_loopw [12,13,146] (fun _ _ s146 wr=>∃k:Nat,k≤n2∧s146 = .int .i64 (k:Int)∧Hid (Below q2.heap.size q2 wr)) (fun _ _ s146 _=>n2 - (intOf s146).toNat)
    case atStart=>exact ⟨0,by omega,rfl,Below.refl _ _⟩
    case round =>
     obtain ⟨k,hk,rfl,hbk⟩:=hrel
     clear x0 x1 x2 xl y0 y1 y2 yl
     obtain ⟨x0,x1,x2,xl⟩:=c3_of (keepq hbk.out QG.out)
     by_cases hltk:k<n2
     ·have hkk:(k:Int)<(n2:Int):=by omega
      obtain ⟨b1,o1,hae1,hl1,hc1⟩:=(KP.out.mono hbk.out).2 k hltk
      obtain ⟨b2,o2,hae2,hl2,hc2⟩:=(KG.out.mono hbk.out).2 k hltk
      subst hae1 hae2
      have hha:=HHA.out k hltk
      generalize ps[k]?.getD 0=pv at hc1 hha
      generalize g[k]?.getD 0=gv at hc2 hha
      by_cases hp0:0≤pv
      ·have hge:=hha hp0
       subst hge
       have dd:(gv != gv)=false:=by simp
       clear hha
       go_wp2_with fail
       go_roundw
       case rel=>exact ⟨k+1,by omega,by go_num,hbk⟩
       case measure=>simp[intOf];omega
      ·clear hha
       go_wp2_with fail
       go_roundw
       case rel=>exact ⟨k+1,by omega,by go_num,hbk⟩
       case measure=>simp[intOf];omega
     ·have hkk:¬(k:Int)<(n2:Int):=by omega
      go_wp2_with fail
      go_roundw
      case rel=>exact ⟨i+1,by omega,by go_num,keep_trans HBQ.out hbk.out⟩
      case measure=>simp[intOf];omega
  ·have hii:¬(i:Int)<(m:Int):=by omega
   have hmv:Below p3.heap.size p3 wr:=hbr.out
   replace Q1:=Lib.hid (keepq hmv Q1.out)
   replace IP:=Lib.hid (IP.out.mono hmv)
   replace GF:=Lib.hid (GF.out.below hmv)
   replace HB:=Lib.hid (keep_trans HB.out hmv)
   clear hmv
   obtain ⟨y0,y1,y2,yl⟩:=c3_of Q1.out
   go_upto_region 30 with (first|(go_at_call 27;(with_reducible refine (HC1.out _ HB.out).mono ?_);rintro _ s1 ⟨a6,c6,rfl,gl6,hbs1⟩)|fail)
   obtain ⟨gc,go6,rfl⟩:=gl_addr gl6 (by omega)
   clear y0 y1 y2 yl
   have hmv:Below wr.heap.size wr s1:=hbs1
   replace Q1:=Lib.hid (keepq hmv Q1.out)
   replace IP:=Lib.hid (IP.out.mono hmv)
   replace GF:=Lib.hid (GF.out.below hmv)
   replace HB:=Lib.hid (keep_trans HB.out hmv)
   clear hmv
   have GH:=Lib.hid gl6
   clear hbs1 gl6
   obtain ⟨aF,cF,hgF,f0,f1,f2,fi,_⟩:=gl_at GH.out (show 0<1 by omega)
   obtain ⟨aL,cL,hgL,l0,l1,l2,li,_⟩:=gl_at GF.out (show 0<m by omega)
   have hgl2:=CF.out.ln 0 (by omega)
   rw[List.getElem?_cons_zero,Option.getD_some] at f2 fi
   generalize css[0]?.getD []=g at f2 fi l2 li hgl2
   rw[hgl2] at f2 fi l2 li
   have HSM:=Lib.hid (fun W (hb:Below s1.heap.size s1 W)=>rsame_c (N:Int) (N:Int) aF n2 cF g (N:Int) (N:Int) aL n2 cL g W (fi.mono hb) (li.mono hb))
   rw[show sameG (N:Int) (N:Int) g (N:Int) (N:Int) g=true by unfold sameG;simp[sameB]] at HSM
   rw[show go6+0*3=go6 by omega] at f0
   rw[show go6+0*3+1=go6+1 by omega] at f1
   rw[show go6+0*3+2=go6+2 by omega] at f2
   rw[show go5+0*3=go5 by omega] at l0
   rw[show go5+0*3+1=go5+1 by omega] at l1
   rw[show go5+0*3+2=go5+2 by omega] at l2
   have d1:((m:Int)==0)=false:=by simpa using (show ¬(m:Int)=0 by omega)
   have d2:(0:Int)<(m:Int):=by omega
   clear hgl2 fi li
   refine wp_region_S (fun w'=>∃u,w'=over (s1) u) [] [(0,0),(0,1),(0,2),(0,3),(0,4),(0,5),(0,6),(0,7),(0,8),(0,9),(0,10),(0,11),(0,12),(0,13),(0,14),(0,15),(0,16),(0,17),(0,18),(1,19),(0,20),(0,21)] (by kernel_rfl) (by kernel_rfl) (by exact ⟨_,below_over (by repeat (first|assumption|exact Below.refl _ _|refine keep_drew ?_|refine keep_alloc ?_ _|refine keep_trans ?_ (by assumption)))⟩) ?_
   dsimp only[pickOps,nthOp]
   repeat (first|(refine wpS_skip rfl (fun K hK=>?_);go_big_quiet_op;refine hK _ ?_;clear hK K)|(refine wpS_quiet rfl rfl (fun K hK=>?_);go_big_quiet_op;refine hK _ ?_;clear hK K)|(refine wpS_loud ?_;go_wp2_with (first|(go_at_call 43;(with_reducible refine (HSM.out _ (by (repeat (first|assumption|exact Below.refl _ _|refine keep_drew ?_|refine keep_alloc ?_ _|refine keep_trans ?_ (by assumption))))).mono ?_);rintro _ s2 ⟨rfl,hbs2⟩)|fail);refine ⟨?_,?_⟩;focus (exact ⟨_,below_over (by repeat (first|assumption|exact Below.refl _ _|refine keep_drew ?_|refine keep_alloc ?_ _|refine keep_trans ?_ (by assumption)))⟩)))
   refine wpS_end ?_
   have hmv:Below s1.heap.size s1 s2:=(by (repeat (first|assumption|exact Below.refl _ _|refine keep_drew ?_|refine keep_alloc ?_ _|refine keep_trans ?_ (by assumption))))
   replace Q1:=Lib.hid (keepq hmv Q1.out)
   replace IP:=Lib.hid (IP.out.mono hmv)
   replace GF:=Lib.hid (GF.out.below hmv)
   replace GH:=Lib.hid (GH.out.below hmv)
   replace HB:=Lib.hid (keep_trans HB.out hmv)
   clear hmv hbs2 f0 f1 f2 l0 l1 l2 hgF hgL HSM d1 d2
   obtain ⟨y0,y1,y2,yl⟩:=c3_of Q1.out
   have HCY:=Lib.hid (rcopy_c (N:Int) (N:Int) a2 n2 c2 ps s2 IP.out (by omega))
   go_upto_region 33 with (first|(go_at_call 44;(with_reducible refine (HCY.out).mono ?_);rintro _ s3 ⟨a7,c7,rfl,ow7,hbs3⟩)|fail)
   obtain ⟨g7,rfl,O7⟩:=OI.of ow7 hn21
   have hg7:=O7.blk
   have lsz:(s3.alloc (.cells #[.int .i64 (N:Int),.int .i64 (N:Int),.slice (some ⟨g7,0,none⟩) n2 c7] 24)).heap.size=s3.heap.size+1:=by simp only[World.size_alloc]
   have lB:Below s3.heap.size s3 (s3.alloc (.cells #[.int .i64 (N:Int),.int .i64 (N:Int),.slice (some ⟨g7,0,none⟩) n2 c7] 24)):=(Below.refl _ _).alloc (Nat.le_refl _) _
   have lq0:(s3.alloc (.cells #[.int .i64 (N:Int),.int .i64 (N:Int),.slice (some ⟨g7,0,none⟩) n2 c7] 24)).heap[s3.heap.size]?=some (.cells #[.int .i64 (N:Int),.int .i64 (N:Int),.slice (some ⟨g7,0,none⟩) n2 c7] 24 (0,0)):=by have h:=World.alloc_heap_new s3 (.cells #[.int .i64 (N:Int),.int .i64 (N:Int),.slice (some ⟨g7,0,none⟩) n2 c7] 24);exact h
   generalize (s3.alloc (.cells #[.int .i64 (N:Int),.int .i64 (N:Int),.slice (some ⟨g7,0,none⟩) n2 c7] 24))=V33 at lsz lB lq0 ⊢
   have O9:=Lib.hid (O7.keep lB)
   have LQ:=Lib.hid lq0
   have hne7:s3.heap.size≠g7:=by omega
   have HG7:Hid (s2.heap.size≤g7):=by unfold Hid;omega
   have HB27:=Lib.hid (keep_trans hbs3 lB)
   have HB2:=HB
   clear y0 y1 y2 yl
   have hmv:Below s2.heap.size s2 V33:=HB27.out
   replace Q1:=Lib.hid (keepq hmv Q1.out)
   replace IP:=Lib.hid (IP.out.mono hmv)
   replace GF:=Lib.hid (GF.out.below hmv)
   replace GH:=Lib.hid (GH.out.below hmv)
   replace HB:=Lib.hid (keep_trans HB.out hmv)
   clear hmv
   clear lsz lq0 lB hbs3 ow7 O7 hg7 HCY
   obtain ⟨x0,x1,x2,xl⟩:=c3_of LQ.out
   go_wp2_with fail
   go_loopw [17,196] (fun _ s196 wr=>∃k:Nat,k≤n2∧s196 = .int .i64 (k:Int)∧wr=V33) (fun _ s196 _=>n2 - (intOf s196).toNat)
   case atStart=>exact ⟨0,by omega,rfl,rfl⟩
   case round =>
    obtain ⟨k,hk,rfl,hwr⟩:=hrel
    replace hwr:=hwr.symm
    subst hwr
    by_cases hltk:k<n2
    ·have hkk:(k:Int)<(n2:Int):=by omega
     obtain ⟨u0,u1,u2⟩:=O9.out.at hltk
     have hkp:k<ps.length:=by rw[hlp.out];exact hltk
     have HKP:=Lib.hid hkp
     clear hkp
     obtain ⟨pv,hpv⟩:∃pv,ps[k]?.getD 0=pv:=⟨_,rfl⟩
     rw[hpv] at u0
     clear hpv
     by_cases hp0:0≤pv
     ·have O10:=O9.out.set k (-1)
      have q10:=q_other (i:=k) LQ.out hne7 (.int .i64 (-1))
      have hb10:Below s2.heap.size s2 (V33.setCell ⟨g7,k,none⟩ (.int .i64 (-1))):=HB27.out.setCell (p:=⟨g7,k,none⟩) HG7.out _
      obtain ⟨css2,hle2,hF⟩:=HLS.out (V33.setCell ⟨g7,k,none⟩ (.int .i64 (-1))) (some ⟨g7,0,none⟩) c7 (ps.set k (-1)) (.inr ⟨k,HKP.out,rfl⟩) (O10.ic (by omega))
      have HF:=Lib.hid hF
      have hle3:(m:Int)≤(css2.length:Int):=by omega
      have HBE:=Lib.hid hb10
      clear hF hle2 hb10 O10
      go_upto_region 39 with fail
      generalize V33.setCell ⟨g7,k,none⟩ (.int .i64 (-1))=V39 at q10 HF HBE ⊢
      clear x0 x1 x2 xl
      obtain ⟨x0,x1,x2,xl⟩:=c3_of q10
      go_wp2_with (first|(go_at_call 27;(with_reducible refine (HF.out _ (Below.refl _ _)).mono ?_);rintro _ wZ ⟨aZ,cZ,rfl,glZ,hbZ⟩)|(go_at_call 20;refine (awake4_c _).mono ?_;rintro _ wz ⟨rfl,hbz⟩)|fail)
      refine bodyPost_ret (v := .bool true) ?_ rfl ⟨rfl,keep_trans HB2.out (keep_trans HBE.out (keep_trans hbZ hbz))⟩
      simp[results,Tryz.f8,go_sem]
     ·go_wp2_with fail
      go_roundw
      case rel=>exact ⟨k+1,by omega,by go_num,trivial⟩
      case measure=>simp[intOf];omega
    ·have hkk:¬(k:Int)<(n2:Int):=by omega
     obtain ⟨css2,hle2,hF⟩:=HLS.out V33 (some ⟨g7,0,none⟩) c7 ps (.inl rfl) (O9.out.ic (by omega))
     have HF:=Lib.hid hF
     have hle3:(m:Int)≤(css2.length:Int):=by omega
     have HBE:=Lib.hid HB27.out
     clear hF hle2
     go_wp2_with (first|(go_at_call 27;(with_reducible refine (HF.out _ (Below.refl _ _)).mono ?_);rintro _ wZ ⟨aZ,cZ,rfl,glZ,hbZ⟩)|(go_at_call 20;refine (awake4_c _).mono ?_;rintro _ wz ⟨rfl,hbz⟩)|fail)
     refine bodyPost_ret (v := .bool true) ?_ rfl ⟨rfl,keep_trans HB2.out (keep_trans HBE.out (keep_trans hbZ hbz))⟩
     simp[results,Tryz.f8,go_sem]
end
end Go.Proofs.YtmfpdakaeagdpaaGreat
