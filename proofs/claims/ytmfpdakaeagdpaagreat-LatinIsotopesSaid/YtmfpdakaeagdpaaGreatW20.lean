/- Texts J78 to J80 of this proof, in one file. -/
import Derived.Test.YtmfpdakaeagdpaaGreatW01
import Derived.Test.YtmfpdakaeagdpaaGreatW02
import Derived.Test.YtmfpdakaeagdpaaGreatW03
import Derived.Test.YtmfpdakaeagdpaaGreatW04
import Derived.Test.YtmfpdakaeagdpaaGreatW05
import Derived.Test.YtmfpdakaeagdpaaGreatW06
import Derived.Test.YtmfpdakaeagdpaaGreatW07
import Derived.Test.YtmfpdakaeagdpaaGreatW08
import Derived.Test.YtmfpdakaeagdpaaGreatW13
import Derived.Test.YtmfpdakaeagdpaaGreatW19
import Derived.Below
import Derived.BigFrame
import Derived.BigQuiet
import Derived.Deep.CutBlock
import Derived.Deep.CutRange
import Derived.Deep.LoopGhost
import Derived.Deep.Quiet
import Derived.Deep.RegionHeld3
import Derived.DeepKeys4
import Derived.KernelRfl
import Derived.Laws.BitsAllLaws
import Derived.Lib.Hide
import Derived.Lib.SliceRun
import Derived.LoopIn
import Derived.LoopNIn
import Derived.Maps.AppendAt
import Derived.Maps.OwnIn
import Derived.Maps.OwnSet
import Derived.OneCell
import Derived.OrdersHeld
import Derived.OwnWalkIn
import Derived.RangeFuncBound
import Derived.RangeFuncCalls
import Derived.RangeFuncLeaves
import Derived.RangeFuncNested
import Derived.Shelf.Abstract
import Derived.Still
import Derived.TacticsInMore
import Derived.Test.YtmfpdakaeagdpaaGreatProg
import Derived.WalkKit
import Derived.WalkLawsBesides
import Derived.WalkSpells
import Derived.WideKeyPair
namespace Go.Proofs.YtmfpdakaeagdpaaGreat
set_option maxRecDepth 100000
set_option maxHeartbeats 16000000
section
open Go Go.RowKit
attribute [local go_sem] over_cell
attribute [local go_sem] Oper.semAt_some
theorem once1_c (N i:Nat) (a:Option Addr) (m c:Nat) (cs:List Int) (bl bf bs fk:Nat) (fst caps:Array Value) (col:Nat→Int) (w:World) (h:IC w a m cs) (L:Latin N cs) (hi:i<N)
  (q1:w.heap[bl]?=some (.cells #[.int .i64 (N:Int),.int .i64 (N:Int),.slice a m c] 24 (0,0)))
  (q2:w.heap[bf]?=some (.cells #[.func (.func fk) fst caps] 69 (0,0)))
  (q3:w.heap[bs]?=some (.cells #[.int .u32 (bitsOf (onceXs N cs col i):Int)] 129 (0,0)))
  (hcf:∀args w,Sem.run Tryz.prog (callFunc fk args) w = .ok (.enter fk args) w)
  (hs:∀W,Below w.heap.size w W→Calls Tryz.prog fk (fst.push (.int .i64 (i:Int))++caps) W (fun e w'=>e = .returned (.int .i64 (col i))∧Below W.heap.size W w')) :
  Calls Tryz.prog 202 #[.int .i64 (i:Int),.pointer (some ⟨bl,0,none⟩),.pointer (some ⟨bf,0,none⟩),.pointer (some ⟨bs,0,none⟩)] w fun e w'=>e = .returned (.bool (!(onceXs N cs col i).contains (onceX N cs col i)))∧w'.heap[bs]?=some (.cells #[.int .u32 (bitsOf (onceXs N cs col (i+1)):Int)] 129 (0,0))∧Below bs w w'∧w.heap.size≤w'.heap.size:=by
 have hN1:=L.pos
 have hN2:=L.le
 have hm:m=N*N:=by rw[← h.len];exact L.len
 obtain ⟨x0,x1,x2,xl⟩:=c3_of q1
 obtain ⟨y0,yf,yl⟩:=c1_of q2
 have Q3:=Lib.hid q3
 have HS:=Lib.hid hs
 obtain ⟨jn,hjn⟩:∃jn:Nat,col i % (N:Int)=(jn:Int):=⟨(col i % (N:Int)).toNat,by have:=Int.emod_nonneg (col i) (show (N:Int)≠0 by omega);omega⟩
 have hjN:jn<N:=by have:=Int.emod_lt_of_pos (col i) (show (0:Int)<(N:Int) by omega);omega
 have HM:Hid (∀W,Calls Tryz.prog 123 #[.int .i64 (col i),.int .i64 (N:Int)] W fun e w'=>e = .returned (.int .i64 (jn:Int))∧W=w'):=fun W=>by have:=modulo_c (col i) N W hN1 (by omega);rw[hjn] at this;exact this
 have HX:onceX N cs col i=cs[i*N+jn]?.getD 0:=by unfold onceX;rw[hjn];rfl
 have hXb:=L.num
 have HAT:Hid (∀W,Below w.heap.size w W→Calls Tryz.prog 116 #[.agg #[.int .i64 (N:Int),.int .i64 (N:Int),.slice a m c],.int .i64 (i:Int),.int .i64 (jn:Int)] W fun e w'=>e = .returned (.int .i64 (onceX N cs col i))∧Below W.heap.size W w'):=fun W hb=>by rw[HX];exact lat_c (N:Int) N i jn a m c cs W (h.mono hb) (by omega) (by omega) hjN (by rw[hm];exact gcell_lt hi hjN)
 have hnum:∀k,k<N→0≤onceX N cs col k∧onceX N cs col k<(N:Int):=by
  intro k hk
  unfold onceX
  have h1:=Int.emod_nonneg (col k) (show (N:Int)≠0 by omega)
  have h2:=Int.emod_lt_of_pos (col k) (show (0:Int)<(N:Int) by omega)
  have hlt:k*N+(col k % (N:Int)).toNat<cs.length:=by rw[L.len];exact gcell_lt hk (by omega)
  rw[List.getElem?_eq_getElem hlt,Option.getD_some]
  exact L.num _ (List.getElem_mem hlt)
 have hall:∀y,y∈onceXs N cs col i→0≤y∧y<(N:Int):=by
  intro y hy
  unfold onceXs at hy
  obtain ⟨k,hk,rfl⟩:=List.mem_map.1 hy
  exact hnum k (by have:=List.mem_range.1 hk;omega)
 have hmb:bitsOf (onceXs N cs col i)<4294967296:=Nat.lt_of_lt_of_le (bitsOf_lt (n:=N) (fun y hy=>hall y hy)) (Nat.le_trans (Nat.pow_le_pow_right (by decide) (show N≤32 by omega)) (by decide))
 have hX:=hnum i hi
 have HB:(bitsOf (onceXs N cs col i)).testBit (onceX N cs col i).toNat=(onceXs N cs col i).contains (onceX N cs col i):=by
  rw[Bool.eq_iff_iff,bitsOf_bit (fun y hy=>(hall y hy).1),List.contains_iff_mem,show ((onceX N cs col i).toNat:Int)=onceX N cs col i by omega]
 have HSU:=Lib.hid (show bitsOf (onceXs N cs col (i+1))=bitsOf (onceXs N cs col i) ||| 1 <<< (onceX N cs col i).toNat by rw[onceXs_succ,bitsOf_snoc])
 have HW:=Lib.hid (fun W=>sywith_c (bitsOf (onceXs N cs col i)) (onceX N cs col i) W hmb hX.1 (by omega))
 have HH:=Lib.hid (fun W=>syhas_c (bitsOf (onceXs N cs col i)) (onceX N cs col i) W hmb hX.1 (by omega))
 rw[HB] at HH
 rw[← HSU.out] at HW
 clear HB HX hnum hall hXb q3 hs hjn h hm L q1 q2
 generalize (onceXs N cs col i).contains (onceX N cs col i)=bb at HH ⊢
 generalize onceX N cs col i=X at HAT HW HH HSU hX
 go_enter Tryz.func202,Tryz.ntmps202
 go_upto_region 1 with fail
 refine wp_region_S (fun w'=>∃u,w'=over (w) u) [9,8] [(0,0),(0,1),(0,2),(0,3),(0,5),(0,6),(1,4),(1,7),(2,8),(2,9)] (by kernel_rfl) (by kernel_rfl) (by exact ⟨_,below_over (by repeat (first|assumption|exact Below.refl _ _|refine keep_drew ?_|refine keep_alloc ?_ _|refine keep_trans ?_ (by assumption)))⟩) ?_
 dsimp only[pickOps,nthOp]
 repeat (first|(refine wpS_skip rfl (fun K hK=>?_);go_big_quiet_op;refine hK _ ?_;clear hK K)|(refine wpS_quiet rfl rfl (fun K hK=>?_);go_big_quiet_op;refine hK _ ?_;clear hK K)|(refine wpS_loud ?_;go_wp2_with (first|(go_at_call 123;refine (HM.out _).mono ?_;rintro _ w2 ⟨rfl,rfl⟩)|(go_at_call 116;refine (HAT.out _ (by (repeat (first|assumption|exact Below.refl _ _|refine keep_drew ?_|refine keep_alloc ?_ _|refine keep_trans ?_ (by assumption))))).mono ?_;rintro _ w3 ⟨rfl,hb5⟩)|(with_reducible refine (HS.out _ (by (repeat (first|assumption|exact Below.refl _ _|refine keep_drew ?_|refine keep_alloc ?_ _|refine keep_trans ?_ (by assumption))))).mono ?_;rintro _ w1 ⟨rfl,hb3⟩)|fail);refine ⟨?_,?_⟩;focus (exact ⟨_,below_over (by repeat (first|assumption|exact Below.refl _ _|refine keep_drew ?_|refine keep_alloc ?_ _|refine keep_trans ?_ (by assumption)))⟩)))
 refine wpS_late _ _ _ rfl ?_
 dsimp only[List.map]
 go_wp2_with (first|(go_at_call 123;refine (HM.out _).mono ?_;rintro _ w2 ⟨rfl,rfl⟩)|(go_at_call 116;refine (HAT.out _ (by (repeat (first|assumption|exact Below.refl _ _|refine keep_drew ?_|refine keep_alloc ?_ _|refine keep_trans ?_ (by assumption))))).mono ?_;rintro _ w3 ⟨rfl,hb5⟩)|(with_reducible refine (HS.out _ (by (repeat (first|assumption|exact Below.refl _ _|refine keep_drew ?_|refine keep_alloc ?_ _|refine keep_trans ?_ (by assumption))))).mono ?_;rintro _ w1 ⟨rfl,hb3⟩)|fail)
 refine NoPanic.normal ?_
 have hW3:Below w.heap.size w w3:=by (repeat (first|assumption|exact Below.refl _ _|refine keep_drew ?_|refine keep_alloc ?_ _|refine keep_trans ?_ (by assumption)))
 have q3:=keepq hW3 Q3.out
 obtain ⟨z0,zf,zl⟩:=c1_of q3
 have HW3:=Lib.hid hW3
 have q4:=Lib.hid q3
 clear x0 x1 x2 xl y0 yf yl hW3 q3
 go_wp2_with (first|(go_at_call 117;refine (HH.out _).mono ?_;rintro _ w6 ⟨rfl,rfl⟩)|(go_at_call 115;refine (HW.out _).mono ?_;rintro _ w7 ⟨rfl,rfl⟩)|fail)
 have q5:=q_set (i:=0) q4.out (.int .u32 (bitsOf (onceXs N cs col (i+1)):Int))
 have hbs:=q_lt Q3.out
 have hb6:=(HW3.out.mono (Nat.le_of_lt hbs)).setCell (p:=⟨bs,0,none⟩) (Nat.le_refl _) (.int .u32 (bitsOf (onceXs N cs col (i+1)):Int))
 have hsz:=Nat.le_trans HW3.out.size (KeepsOthers.setCell w3 ⟨bs,0,none⟩ (.int .u32 (bitsOf (onceXs N cs col (i+1)):Int))).size
 refine bodyPost_ret (v := .bool (!bb)) ?_ rfl ⟨rfl,q5,hb6,hsz⟩
 simp[results,Tryz.f202,go_sem]
theorem enterOnce:∀args w,Sem.run Tryz.prog (callFunc 202 args) w = .ok (.enter 202 args) w:=by
 intro args w;kernel_rfl
theorem lonce_c (N:Nat) (a:Option Addr) (m c:Nat) (cs:List Int) (fk:Nat) (fst caps:Array Value) (col:Nat→Int) (w:World) (h:IC w a m cs) (L:Latin N cs)
  (hcf:∀args w,Sem.run Tryz.prog (callFunc fk args) w = .ok (.enter fk args) w)
  (hs:∀i:Nat,i<N→∀W,Below w.heap.size w W→Calls Tryz.prog fk (fst.push (.int .i64 (i:Int))++caps) W (fun e w'=>e = .returned (.int .i64 (col i))∧Below W.heap.size W w')) :
  Calls Tryz.prog 186 #[.agg #[.int .i64 (N:Int),.int .i64 (N:Int),.slice a m c],.func (.func fk) fst caps] w fun e w'=>e = .returned (.bool (onceB N cs col))∧Below w.heap.size w w':=by
 have HS:=Lib.hid hs
 have HL:=Lib.hid L
 have HI:=Lib.hid h
 have hN2:=L.le
 clear hs h L
 go_enter Tryz.func186,Tryz.ntmps186
 go_upto_region 2 with fail
 have fsz:(((w.alloc (.cells #[.int .i64 (N:Int),.int .i64 (N:Int),.slice a m c] 24)).alloc (.cells #[.func (.func fk) fst caps] 69)).alloc (.cells #[.int .u32 0] 129)).heap.size=w.heap.size+3:=by simp only[World.size_alloc] <;> omega
 have fB:Below w.heap.size w (((w.alloc (.cells #[.int .i64 (N:Int),.int .i64 (N:Int),.slice a m c] 24)).alloc (.cells #[.func (.func fk) fst caps] 69)).alloc (.cells #[.int .u32 0] 129)):=(((Below.refl _ _).alloc (Nat.le_refl _) _).alloc (by simp only[World.size_alloc];omega) _).alloc (by simp only[World.size_alloc];omega) _
 have fq0:(((w.alloc (.cells #[.int .i64 (N:Int),.int .i64 (N:Int),.slice a m c] 24)).alloc (.cells #[.func (.func fk) fst caps] 69)).alloc (.cells #[.int .u32 0] 129)).heap[w.heap.size]?=some (.cells #[.int .i64 (N:Int),.int .i64 (N:Int),.slice a m c] 24 (0,0)):=by have h:=World.alloc_heap_new w (.cells #[.int .i64 (N:Int),.int .i64 (N:Int),.slice a m c] 24);exact (Below.heap_alloc _ _ _ (by simp only[World.size_alloc];omega)).trans ((Below.heap_alloc _ _ _ (by simp only[World.size_alloc];omega)).trans (h))
 have fq1:(((w.alloc (.cells #[.int .i64 (N:Int),.int .i64 (N:Int),.slice a m c] 24)).alloc (.cells #[.func (.func fk) fst caps] 69)).alloc (.cells #[.int .u32 0] 129)).heap[w.heap.size+1]?=some (.cells #[.func (.func fk) fst caps] 69 (0,0)):=by have h:=World.alloc_heap_new (w.alloc (.cells #[.int .i64 (N:Int),.int .i64 (N:Int),.slice a m c] 24)) (.cells #[.func (.func fk) fst caps] 69);simp only[World.size_alloc] at h;exact (Below.heap_alloc _ _ _ (by simp only[World.size_alloc];omega)).trans (h)
 have fq2:(((w.alloc (.cells #[.int .i64 (N:Int),.int .i64 (N:Int),.slice a m c] 24)).alloc (.cells #[.func (.func fk) fst caps] 69)).alloc (.cells #[.int .u32 0] 129)).heap[w.heap.size+1+1]?=some (.cells #[.int .u32 0] 129 (0,0)):=by have h:=World.alloc_heap_new ((w.alloc (.cells #[.int .i64 (N:Int),.int .i64 (N:Int),.slice a m c] 24)).alloc (.cells #[.func (.func fk) fst caps] 69)) (.cells #[.int .u32 0] 129);simp only[World.size_alloc] at h;exact h
 generalize (((w.alloc (.cells #[.int .i64 (N:Int),.int .i64 (N:Int),.slice a m c] 24)).alloc (.cells #[.func (.func fk) fst caps] 69)).alloc (.cells #[.int .u32 0] 129))=W0 at fsz fB fq0 fq1 fq2 ⊢
 obtain ⟨x0,x1,x2,xl⟩:=c3_of fq0
 have hEV:=every_c N (by omega) 202 #[] #[.pointer (some ⟨w.heap.size,0,none⟩),.pointer (some ⟨w.heap.size+1,0,none⟩),.pointer (some ⟨w.heap.size+1+1,0,none⟩)]
  (fun i=>!(onceXs N cs col i).contains (onceX N cs col i)) (fun k W=>W.heap[w.heap.size+1+1]?=some (.cells #[.int .u32 (bitsOf (onceXs N cs col k):Int)] 129 (0,0))∧Below (w.heap.size+1+1) W0 W) W0 enterOnce ⟨fq2,Below.refl _ _⟩ (fun k hk W hI=>by
   obtain ⟨g3,hb⟩:=hI
   have hbw:Below w.heap.size w W:=fB.trans (hb.mono (by omega))
   refine (once1_c N k a m c cs w.heap.size (w.heap.size+1) (w.heap.size+1+1) fk fst caps col W (HI.out.mono hbw) HL.out hk ((hb.block _ (by omega)).trans fq0) ((hb.block _ (by omega)).trans fq1) g3 hcf (fun W' hb'=>HS.out k hk W' (keep_trans hbw hb'))).mono ?_
   rintro e w' ⟨rfl,g4,hb4,_⟩
   exact ⟨rfl,g4,hb.trans hb4⟩)
 have HEV:=Lib.hid hEV
 have FB:=Lib.hid fB
 have hsz:w.heap.size+3=W0.heap.size:=fsz.symm
 clear hEV fq0 fq1 fq2 fB fsz
 go_wp2_with (first|(go_at_call 179;refine HEV.out.mono ?_;rintro _ w6 ⟨rfl,k,g3,hb6⟩)|fail)
 refine bodyPost_ret (v := .bool (onceB N cs col)) ?_ rfl ⟨rfl,FB.out.trans (hb6.mono (by omega))⟩
 simp[results,Tryz.f186,go_sem,onceB]
end
section
open Go Go.RowKit
attribute [local go_sem] over_cell
attribute [local go_sem] Oper.semAt_some
theorem enterK21:∀args w,Sem.run Tryz.prog (callFunc 180 args) w = .ok (.enter 180 args) w:=by
 intro args w;kernel_rfl
theorem enterK31:∀args w,Sem.run Tryz.prog (callFunc 182 args) w = .ok (.enter 182 args) w:=by
 intro args w;kernel_rfl
theorem enterK41:∀args w,Sem.run Tryz.prog (callFunc 184 args) w = .ok (.enter 184 args) w:=by
 intro args w;kernel_rfl
theorem enterK51:∀args w,Sem.run Tryz.prog (callFunc 187 args) w = .ok (.enter 187 args) w:=by
 intro args w;kernel_rfl
theorem enterK52:∀args w,Sem.run Tryz.prog (callFunc 188 args) w = .ok (.enter 188 args) w:=by
 intro args w;kernel_rfl
theorem enterK61:∀args w,Sem.run Tryz.prog (callFunc 190 args) w = .ok (.enter 190 args) w:=by
 intro args w;kernel_rfl
theorem enterK611:∀args w,Sem.run Tryz.prog (callFunc 191 args) w = .ok (.enter 191 args) w:=by
 intro args w;kernel_rfl
theorem enterK612:∀args w,Sem.run Tryz.prog (callFunc 192 args) w = .ok (.enter 192 args) w:=by
 intro args w;kernel_rfl
theorem wrap_nat (d:Nat) (h:d≤100000):wrap64 (d:Int)=(d:Int):=by unfold wrap64;omega
theorem k31_c (N i b:Nat) (a:Option Addr) (m c:Nat) (cs:List Int) (w:World) (h:IC w a m cs) (L:Latin N cs) (hi:i<N) (q:w.heap[b]?=some (.cells #[.int .i64 (N:Int),.int .i64 (N:Int),.slice a m c] 24 (0,0))) :
  Calls Tryz.prog 182 #[.int .i64 (i:Int),.pointer (some ⟨b,0,none⟩)] w fun e w'=>e = .returned (.bool (cs[i*N+i]?.getD 0==(i:Int)))∧Below w.heap.size w w':=by
 have hN2:=L.le
 have hm:m=N*N:=by rw[← h.len];exact L.len
 obtain ⟨x0,x1,x2,xl⟩:=c3_of q
 have HAT:Hid (∀W,Below w.heap.size w W→Calls Tryz.prog 116 #[.agg #[.int .i64 (N:Int),.int .i64 (N:Int),.slice a m c],.int .i64 (i:Int),.int .i64 (i:Int)] W fun e w'=>e = .returned (.int .i64 (cs[i*N+i]?.getD 0))∧Below W.heap.size W w'):=fun W hb=>lat_c (N:Int) N i i a m c cs W (h.mono hb) (by omega) (by omega) hi (by rw[hm];exact gcell_lt hi hi)
 clear h hm q L
 go_enter Tryz.func182,Tryz.ntmps182
 go_wp2_with (first|(go_at_call 116;refine (HAT.out _ (by (repeat (first|assumption|exact Below.refl _ _|refine keep_drew ?_|refine keep_alloc ?_ _|refine keep_trans ?_ (by assumption))))).mono ?_;rintro _ w3 ⟨rfl,hb5⟩)|fail)
 refine bodyPost_ret (v := .bool (cs[i*N+i]?.getD 0==(i:Int))) ?_ rfl ⟨rfl,hb5⟩
 simp[results,Tryz.f182,go_sem]
theorem k3_c (N:Nat) (a:Option Addr) (m c:Nat) (cs:List Int) (w:World) (h:IC w a m cs) (L:Latin N cs) :
  Calls Tryz.prog 181 #[.agg #[.int .i64 (N:Int),.int .i64 (N:Int),.slice a m c]] w fun e w'=>e = .returned (.bool (kIde N cs))∧Below w.heap.size w w':=by
 have hN2:=L.le
 go_enter Tryz.func181,Tryz.ntmps181
 go_upto_region 1 with fail
 have fB:Below w.heap.size w (w.alloc (.cells #[.int .i64 (N:Int),.int .i64 (N:Int),.slice a m c] 24)):=(Below.refl _ _).alloc (Nat.le_refl _) _
 have FQ:Hid ((w.alloc (.cells #[.int .i64 (N:Int),.int .i64 (N:Int),.slice a m c] 24)).heap[w.heap.size]?=some (.cells #[.int .i64 (N:Int),.int .i64 (N:Int),.slice a m c] 24 (0,0))):=World.alloc_heap_new _ _
 generalize (w.alloc (.cells #[.int .i64 (N:Int),.int .i64 (N:Int),.slice a m c] 24))=W0 at fB FQ ⊢
 obtain ⟨x0,x1,x2,xl⟩:=c3_of FQ.out
 have hEV:=every_c N (by omega) 182 #[] #[.pointer (some ⟨w.heap.size,0,none⟩)] (fun i=>cs[i*N+i]?.getD 0==(i:Int)) (fun _ W=>Below W0.heap.size W0 W) W0 enterK31 (Below.refl _ _) (fun k hk W hb=>by
  refine (k31_c N k w.heap.size a m c cs W (h.mono (keep_trans fB hb)) L hk (keepq hb FQ.out)).mono ?_
  rintro e w' ⟨rfl,hb'⟩
  exact ⟨rfl,keep_trans hb hb'⟩)
 have HEV:=Lib.hid hEV
 clear hEV L h
 go_wp2_with (first|(go_at_call 179;refine HEV.out.mono ?_;rintro _ w6 ⟨rfl,k,hb6⟩)|fail)
 refine bodyPost_ret (v := .bool (kIde N cs)) ?_ rfl ⟨rfl,keep_trans fB hb6⟩
 simp[results,Tryz.f181,go_sem,kIde]
theorem k41_c (N i b:Nat) (a:Option Addr) (m c:Nat) (cs:List Int) (w:World) (h:IC w a m cs) (L:Latin N cs) (hi:i<N) (q:w.heap[b]?=some (.cells #[.int .i64 (N:Int),.int .i64 (N:Int),.slice a m c] 24 (0,0))) :
  Calls Tryz.prog 184 #[.int .i64 (i:Int),.pointer (some ⟨b,0,none⟩)] w fun e w'=>e = .returned (.bool (cs[i*N+i]?.getD 0==cs[0]?.getD 0))∧Below w.heap.size w w':=by
 have hN1:=L.pos
 have hN2:=L.le
 have hm:m=N*N:=by rw[← h.len];exact L.len
 obtain ⟨x0,x1,x2,xl⟩:=c3_of q
 have HAT:Hid (∀(i:Nat) W,Below w.heap.size w W→i<N→Calls Tryz.prog 116 #[.agg #[.int .i64 (N:Int),.int .i64 (N:Int),.slice a m c],.int .i64 (i:Int),.int .i64 (i:Int)] W fun e w'=>e = .returned (.int .i64 (cs[i*N+i]?.getD 0))∧Below W.heap.size W w'):=fun i W hb hi=>lat_c (N:Int) N i i a m c cs W (h.mono hb) (by omega) (by omega) hi (by rw[hm];exact gcell_lt hi hi)
 have HA0:Hid (∀W,Below w.heap.size w W→Calls Tryz.prog 116 #[.agg #[.int .i64 (N:Int),.int .i64 (N:Int),.slice a m c],.int .i64 0,.int .i64 0] W fun e w'=>e = .returned (.int .i64 (cs[0]?.getD 0))∧Below W.heap.size W w'):=fun W hb=>by have:=HAT.out 0 W hb (by omega);rw[Nat.zero_mul] at this;exact this
 have HAI:=Lib.hid (fun W hb=>HAT.out i W hb hi)
 generalize cs[i*N+i]?.getD 0=X at HAI ⊢
 generalize cs[0]?.getD 0=Y at HA0 ⊢
 clear h hm q L HAT
 go_enter Tryz.func184,Tryz.ntmps184
 go_upto_region 1 with fail
 refine wp_region_S (fun w'=>∃u,w'=over (w) u) [7] [(0,0),(0,1),(0,2),(0,4),(1,3),(1,5),(0,6),(2,7)] (by kernel_rfl) (by kernel_rfl) (by exact ⟨_,below_over (by repeat (first|assumption|exact Below.refl _ _|refine keep_drew ?_|refine keep_alloc ?_ _|refine keep_trans ?_ (by assumption)))⟩) ?_
 dsimp only[pickOps,nthOp]
 repeat (first|(refine wpS_skip rfl (fun K hK=>?_);go_big_quiet_op;refine hK _ ?_;clear hK K)|(refine wpS_quiet rfl rfl (fun K hK=>?_);go_big_quiet_op;refine hK _ ?_;clear hK K)|(refine wpS_loud ?_;go_wp2_with (first|(go_at_call 116;with_reducible refine (HA0.out _ (by (repeat (first|assumption|exact Below.refl _ _|refine keep_drew ?_|refine keep_alloc ?_ _|refine keep_trans ?_ (by assumption))))).mono ?_;rintro _ w3 ⟨rfl,hb5⟩)|(go_at_call 116;with_reducible refine (HAI.out _ (by (repeat (first|assumption|exact Below.refl _ _|refine keep_drew ?_|refine keep_alloc ?_ _|refine keep_trans ?_ (by assumption))))).mono ?_;rintro _ w4 ⟨rfl,hb6⟩)|fail);refine ⟨?_,?_⟩;focus (exact ⟨_,below_over (by repeat (first|assumption|exact Below.refl _ _|refine keep_drew ?_|refine keep_alloc ?_ _|refine keep_trans ?_ (by assumption)))⟩)))
 refine wpS_late _ _ _ rfl ?_
 dsimp only[List.map]
 go_wp2_with (first|(go_at_call 116;with_reducible refine (HA0.out _ (by (repeat (first|assumption|exact Below.refl _ _|refine keep_drew ?_|refine keep_alloc ?_ _|refine keep_trans ?_ (by assumption))))).mono ?_;rintro _ w3 ⟨rfl,hb5⟩)|(go_at_call 116;with_reducible refine (HAI.out _ (by (repeat (first|assumption|exact Below.refl _ _|refine keep_drew ?_|refine keep_alloc ?_ _|refine keep_trans ?_ (by assumption))))).mono ?_;rintro _ w4 ⟨rfl,hb6⟩)|fail)
 refine NoPanic.normal ?_
 go_wp2_with fail
 refine bodyPost_ret (v := .bool (X==Y)) ?_ rfl ⟨rfl,show Below w.heap.size w w3 by (repeat (first|assumption|exact Below.refl _ _|refine keep_drew ?_|refine keep_alloc ?_ _|refine keep_trans ?_ (by assumption)))⟩
 simp[results,Tryz.f184,go_sem]
theorem k4_c (N:Nat) (a:Option Addr) (m c:Nat) (cs:List Int) (w:World) (h:IC w a m cs) (L:Latin N cs) :
  Calls Tryz.prog 183 #[.agg #[.int .i64 (N:Int),.int .i64 (N:Int),.slice a m c]] w fun e w'=>e = .returned (.bool (kUni N cs))∧Below w.heap.size w w':=by
 have hN2:=L.le
 have hm:m=N*N:=by rw[← h.len];exact L.len
 have hNN:N*N≤16*16:=Nat.mul_le_mul hN2 hN2
 have hm256:m≤256:=by omega
 have HNN:=Lib.hid hm
 clear hm hNN
 go_enter Tryz.func183,Tryz.ntmps183
 go_upto_region 1 with fail
 have fB:Below w.heap.size w (w.alloc (.cells #[.int .i64 (N:Int),.int .i64 (N:Int),.slice a m c] 24)):=(Below.refl _ _).alloc (Nat.le_refl _) _
 have FQ:Hid ((w.alloc (.cells #[.int .i64 (N:Int),.int .i64 (N:Int),.slice a m c] 24)).heap[w.heap.size]?=some (.cells #[.int .i64 (N:Int),.int .i64 (N:Int),.slice a m c] 24 (0,0))):=World.alloc_heap_new _ _
 generalize (w.alloc (.cells #[.int .i64 (N:Int),.int .i64 (N:Int),.slice a m c] 24))=W0 at fB FQ ⊢
 obtain ⟨x0,x1,x2,xl⟩:=c3_of FQ.out
 have hEV:=every_c N (by omega) 184 #[] #[.pointer (some ⟨w.heap.size,0,none⟩)] (fun i=>cs[i*N+i]?.getD 0==cs[0]?.getD 0) (fun _ W=>Below W0.heap.size W0 W) W0 enterK41 (Below.refl _ _) (fun k hk W hb=>by
  refine (k41_c N k w.heap.size a m c cs W (h.mono (keep_trans fB hb)) L hk (keepq hb FQ.out)).mono ?_
  rintro e w' ⟨rfl,hb'⟩
  exact ⟨rfl,keep_trans hb hb'⟩)
 have HEV:=Lib.hid hEV
 clear hEV L h
 go_wp2_with (first|(go_at_call 179;refine HEV.out.mono ?_;rintro _ w6 ⟨rfl,k,hb6⟩)|fail)
 refine bodyPost_ret (v := .bool (kUni N cs)) ?_ rfl ⟨rfl,keep_trans fB hb6⟩
 simp[results,Tryz.f183,go_sem,kUni]
theorem k21_c (N i b:Nat) (a:Option Addr) (m c:Nat) (cs:List Int) (w:World) (h:IC w a m cs) (L:Latin N cs) (hi:i<m) (q:w.heap[b]?=some (.cells #[.int .i64 (N:Int),.int .i64 (N:Int),.slice a m c] 24 (0,0))) :
  Calls Tryz.prog 180 #[.int .i64 (i:Int),.pointer (some ⟨b,0,none⟩)] w fun e w'=>e = .returned (.bool (cs[i]?.getD 0==cs[i % N*N+i / N]?.getD 0))∧Below w.heap.size w w':=by
 have hN1:=L.pos
 have hN2:=L.le
 have hm:m=N*N:=by rw[← h.len];exact L.len
 have hNN:N*N≤16*16:=Nat.mul_le_mul hN2 hN2
 have hdv:i / N<N:=Nat.div_lt_of_lt_mul (by rw[← hm];exact hi)
 have hmd:i % N<N:=Nat.mod_lt _ (by omega)
 obtain ⟨x0,x1,x2,xl⟩:=c3_of q
 have HAT:Hid (∀W,Below w.heap.size w W→Calls Tryz.prog 116 #[.agg #[.int .i64 (N:Int),.int .i64 (N:Int),.slice a m c],.int .i64 ((i:Int) % (N:Int)),.int .i64 (wrap64 ((i:Int) / (N:Int)))] W fun e w'=>e = .returned (.int .i64 (cs[i % N*N+i / N]?.getD 0))∧Below W.heap.size W w'):=fun W hb=>by
  rw[← Int.natCast_emod,← Int.natCast_ediv,wrap_nat (i / N) (by omega)]
  exact lat_c (N:Int) N (i % N) (i / N) a m c cs W (h.mono hb) (by omega) (by omega) hdv (by rw[hm];exact gcell_lt hmd hdv)
 generalize cs[i % N*N+i / N]?.getD 0=Y at HAT ⊢
 obtain ⟨b1,off,rfl,hl,hc⟩:=h.2 i hi
 generalize cs[i]?.getD 0=X at hc ⊢
 have hne:(N:Int)≠0:=by omega
 have hm256:m≤256:=by omega
 have him:(i:Int)<(m:Int):=by omega
 clear h hm q L hNN hdv hmd
 go_enter Tryz.func180,Tryz.ntmps180
 go_upto_region 1 with fail
 refine wp_region_S (fun w'=>∃u,w'=over (w) u) [16] [(0,0),(0,1),(0,2),(0,3),(0,4),(0,5),(0,6),(0,7),(0,8),(0,9),(0,10),(0,11),(0,12),(0,13),(1,14),(0,15),(2,16)] (by kernel_rfl) (by kernel_rfl) (by exact ⟨_,below_over (by repeat (first|assumption|exact Below.refl _ _|refine keep_drew ?_|refine keep_alloc ?_ _|refine keep_trans ?_ (by assumption)))⟩) ?_
 dsimp only[pickOps,nthOp]
 repeat (first|(refine wpS_skip rfl (fun K hK=>?_);go_big_quiet_op;refine hK _ ?_;clear hK K)|(refine wpS_quiet rfl rfl (fun K hK=>?_);go_big_quiet_op;refine hK _ ?_;clear hK K)|(refine wpS_loud ?_;go_wp2_with (first|(go_at_call 116;refine (HAT.out _ (by (repeat (first|assumption|exact Below.refl _ _|refine keep_drew ?_|refine keep_alloc ?_ _|refine keep_trans ?_ (by assumption))))).mono ?_;rintro _ w3 ⟨rfl,hb5⟩)|fail);refine ⟨?_,?_⟩;focus (exact ⟨_,below_over (by repeat (first|assumption|exact Below.refl _ _|refine keep_drew ?_|refine keep_alloc ?_ _|refine keep_trans ?_ (by assumption)))⟩)))
 refine wpS_late _ _ _ rfl ?_
 dsimp only[List.map]
 go_wp2_with (first|(go_at_call 116;refine (HAT.out _ (by (repeat (first|assumption|exact Below.refl _ _|refine keep_drew ?_|refine keep_alloc ?_ _|refine keep_trans ?_ (by assumption))))).mono ?_;rintro _ w3 ⟨rfl,hb5⟩)|fail)
 refine NoPanic.normal ?_
 go_wp2_with fail
 refine bodyPost_ret (v := .bool (X==Y)) ?_ rfl ⟨rfl,show Below w.heap.size w w3 by (repeat (first|assumption|exact Below.refl _ _|refine keep_drew ?_|refine keep_alloc ?_ _|refine keep_trans ?_ (by assumption)))⟩
 simp[results,Tryz.f180,go_sem]
theorem k2_c (N:Nat) (a:Option Addr) (m c:Nat) (cs:List Int) (w:World) (h:IC w a m cs) (L:Latin N cs) :
  Calls Tryz.prog 178 #[.agg #[.int .i64 (N:Int),.int .i64 (N:Int),.slice a m c]] w fun e w'=>e = .returned (.bool (kSym N cs))∧Below w.heap.size w w':=by
 have hN2:=L.le
 have hm:m=N*N:=by rw[← h.len];exact L.len
 have hNN:N*N≤16*16:=Nat.mul_le_mul hN2 hN2
 have hm256:m≤256:=by omega
 have HNN:=Lib.hid hm
 clear hm hNN
 go_enter Tryz.func178,Tryz.ntmps178
 go_upto_region 1 with fail
 have fB:Below w.heap.size w (w.alloc (.cells #[.int .i64 (N:Int),.int .i64 (N:Int),.slice a m c] 24)):=(Below.refl _ _).alloc (Nat.le_refl _) _
 have FQ:Hid ((w.alloc (.cells #[.int .i64 (N:Int),.int .i64 (N:Int),.slice a m c] 24)).heap[w.heap.size]?=some (.cells #[.int .i64 (N:Int),.int .i64 (N:Int),.slice a m c] 24 (0,0))):=World.alloc_heap_new _ _
 generalize (w.alloc (.cells #[.int .i64 (N:Int),.int .i64 (N:Int),.slice a m c] 24))=W0 at fB FQ ⊢
 obtain ⟨x0,x1,x2,xl⟩:=c3_of FQ.out
 have hEV:=every_c m (by omega) 180 #[] #[.pointer (some ⟨w.heap.size,0,none⟩)] (fun i=>cs[i]?.getD 0==cs[i % N*N+i / N]?.getD 0) (fun _ W=>Below W0.heap.size W0 W) W0 enterK21 (Below.refl _ _) (fun k hk W hb=>by
  refine (k21_c N k w.heap.size a m c cs W (h.mono (keep_trans fB hb)) L hk (keepq hb FQ.out)).mono ?_
  rintro e w' ⟨rfl,hb'⟩
  exact ⟨rfl,keep_trans hb hb'⟩)
 have HEV:=Lib.hid hEV
 clear hEV L h
 go_wp2_with (first|(go_at_call 179;refine HEV.out.mono ?_;rintro _ w6 ⟨rfl,k,hb6⟩)|fail)
 refine bodyPost_ret (v := .bool (kSym N cs)) ?_ rfl ⟨rfl,keep_trans fB hb6⟩
 simp[results,Tryz.f178,go_sem,kSym,HNN.out]
end
section
open Go Go.RowKit
attribute [local go_sem] over_cell
attribute [local go_sem] Oper.semAt_some
theorem k51_c (i:Nat) (w:World) :
  Calls Tryz.prog 187 #[.int .i64 (i:Int)] w fun e w'=>e = .returned (.int .i64 (i:Int))∧Below w.heap.size w w':=by
 go_enter Tryz.func187,Tryz.ntmps187
 go_wp2_with fail
 refine bodyPost_ret (v := .int .i64 (i:Int)) ?_ rfl ⟨rfl,Below.refl _ _⟩
 simp[results,Tryz.f187,go_sem]
theorem k52_c (N i b:Nat) (v:Value) (w:World) (hN:N≤16) (hi:i<N) (q:w.heap[b]?=some (.cells #[.int .i64 (N:Int),.int .i64 (N:Int),v] 24 (0,0))) :
  Calls Tryz.prog 188 #[.int .i64 (i:Int),.pointer (some ⟨b,0,none⟩)] w fun e w'=>e = .returned (.int .i64 ((N:Int) - 1 - (i:Int)))∧Below w.heap.size w w':=by
 obtain ⟨x0,x1,x2,xl⟩:=c3_of q
 clear q
 go_enter Tryz.func188,Tryz.ntmps188
 go_wp2_with fail
 refine bodyPost_ret (v := .int .i64 ((N:Int) - 1 - (i:Int))) ?_ rfl ⟨rfl,Below.refl _ _⟩
 simp[results,Tryz.f188,go_sem]
theorem k611_c (i k b:Nat) (w:World) (hi:i≤16) (hk:k≤16) (q:w.heap[b]?=some (.cells #[.int .i64 (k:Int)] 3 (0,0))) :
  Calls Tryz.prog 191 #[.int .i64 (i:Int),.pointer (some ⟨b,0,none⟩)] w fun e w'=>e = .returned (.int .i64 ((i:Int)+(k:Int)))∧Below w.heap.size w w':=by
 obtain ⟨x0,x1,xl⟩:=c1_of q
 clear q
 go_enter Tryz.func191,Tryz.ntmps191
 go_wp2_with fail
 refine bodyPost_ret (v := .int .i64 ((i:Int)+(k:Int))) ?_ rfl ⟨rfl,Below.refl _ _⟩
 simp[results,Tryz.f191,go_sem]
theorem k612_c (i k b:Nat) (w:World) (hi:i≤16) (hk:k≤16) (q:w.heap[b]?=some (.cells #[.int .i64 (k:Int)] 3 (0,0))) :
  Calls Tryz.prog 192 #[.int .i64 (i:Int),.pointer (some ⟨b,0,none⟩)] w fun e w'=>e = .returned (.int .i64 ((k:Int) - (i:Int)))∧Below w.heap.size w w':=by
 obtain ⟨x0,x1,xl⟩:=c1_of q
 clear q
 go_enter Tryz.func192,Tryz.ntmps192
 go_wp2_with fail
 refine bodyPost_ret (v := .int .i64 ((k:Int) - (i:Int))) ?_ rfl ⟨rfl,Below.refl _ _⟩
 simp[results,Tryz.f192,go_sem]
theorem k5_c (N:Nat) (a:Option Addr) (m c:Nat) (cs:List Int) (w:World) (h:IC w a m cs) (L:Latin N cs) :
  Calls Tryz.prog 185 #[.agg #[.int .i64 (N:Int),.int .i64 (N:Int),.slice a m c]] w fun e w'=>e = .returned (.bool (kDia N cs))∧Below w.heap.size w w':=by
 have hN2:=L.le
 have HL:=Lib.hid L
 have HI:=Lib.hid h
 clear L h
 go_enter Tryz.func185,Tryz.ntmps185
 go_upto_region 1 with fail
 have fB:Below w.heap.size w (w.alloc (.cells #[.int .i64 (N:Int),.int .i64 (N:Int),.slice a m c] 24)):=(Below.refl _ _).alloc (Nat.le_refl _) _
 have FQ:Hid ((w.alloc (.cells #[.int .i64 (N:Int),.int .i64 (N:Int),.slice a m c] 24)).heap[w.heap.size]?=some (.cells #[.int .i64 (N:Int),.int .i64 (N:Int),.slice a m c] 24 (0,0))):=World.alloc_heap_new _ _
 generalize (w.alloc (.cells #[.int .i64 (N:Int),.int .i64 (N:Int),.slice a m c] 24))=W0 at fB FQ ⊢
 obtain ⟨x0,x1,x2,xl⟩:=c3_of FQ.out
 have HB:=Lib.hid fB
 have H1:Hid (∀W,Below W0.heap.size W0 W→Calls Tryz.prog 186 #[.agg #[.int .i64 (N:Int),.int .i64 (N:Int),.slice a m c],.func (.func 187) #[] #[]] W fun e w'=>e = .returned (.bool (onceB N cs (fun i=>(i:Int))))∧Below W.heap.size W w') :=
  fun W hb=>lonce_c N a m c cs 187 #[] #[] (fun i=>(i:Int)) W (HI.out.mono (keep_trans HB.out hb)) HL.out enterK51 (fun i _ W' _=>k51_c i W')
 have H2:Hid (∀W,Below W0.heap.size W0 W→Calls Tryz.prog 186 #[.agg #[.int .i64 (N:Int),.int .i64 (N:Int),.slice a m c],.func (.func 188) #[] #[.pointer (some ⟨w.heap.size,0,none⟩)]] W fun e w'=>e = .returned (.bool (onceB N cs (fun i=>(N:Int) - 1 - (i:Int))))∧Below W.heap.size W w') :=
  fun W hb=>lonce_c N a m c cs 188 #[] #[.pointer (some ⟨w.heap.size,0,none⟩)] (fun i=>(N:Int) - 1 - (i:Int)) W (HI.out.mono (keep_trans HB.out hb)) HL.out enterK52 (fun i hi W' hb'=>k52_c N i w.heap.size _ W' hN2 hi (keepq hb' (keepq hb FQ.out)))
 have HD:Hid (kDia N cs=(onceB N cs (fun i=>(i:Int))&&onceB N cs (fun i=>(N:Int) - 1 - (i:Int)))):=rfl
 generalize onceB N cs (fun i=>(i:Int))=b1 at H1 HD ⊢
 generalize onceB N cs (fun i=>(N:Int) - 1 - (i:Int))=b2 at H2 HD ⊢
 clear HB
 cases b1 with
 | true =>
  go_wp2_with (first|(go_at_call 186;with_reducible refine (H1.out _ (by (repeat (first|assumption|exact Below.refl _ _|refine keep_drew ?_|refine keep_alloc ?_ _|refine keep_trans ?_ (by assumption))))).mono ?_;rintro _ w1 ⟨rfl,hb1⟩;clear x0 x1 x2 xl;obtain ⟨x0,x1,x2,xl⟩:=c3_of (keepq hb1 FQ.out))|(go_at_call 186;with_reducible refine (H2.out _ (by (repeat (first|assumption|exact Below.refl _ _|refine keep_drew ?_|refine keep_alloc ?_ _|refine keep_trans ?_ (by assumption))))).mono ?_;rintro _ w2 ⟨rfl,hb2⟩)|fail)
  refine bodyPost_ret (v := .bool b2) ?_ rfl ⟨by rw[HD.out];rfl,keep_trans fB (show Below W0.heap.size W0 w2 by (repeat (first|assumption|exact Below.refl _ _|refine keep_drew ?_|refine keep_alloc ?_ _|refine keep_trans ?_ (by assumption))))⟩
  simp[results,Tryz.f185,go_sem]
 | false =>
  go_wp2_with (first|(go_at_call 186;with_reducible refine (H1.out _ (by (repeat (first|assumption|exact Below.refl _ _|refine keep_drew ?_|refine keep_alloc ?_ _|refine keep_trans ?_ (by assumption))))).mono ?_;rintro _ w1 ⟨rfl,hb1⟩)|fail)
  refine bodyPost_ret (v := .bool false) ?_ rfl ⟨by rw[HD.out];rfl,keep_trans fB hb1⟩
  simp[results,Tryz.f185,go_sem]
theorem k61_c (N k b:Nat) (a:Option Addr) (m c:Nat) (cs:List Int) (w:World) (h:IC w a m cs) (L:Latin N cs) (hk:k<N) (q:w.heap[b]?=some (.cells #[.int .i64 (N:Int),.int .i64 (N:Int),.slice a m c] 24 (0,0))) :
  Calls Tryz.prog 190 #[.int .i64 (k:Int),.pointer (some ⟨b,0,none⟩)] w fun e w'=>e = .returned (.bool (onceB N cs (fun i=>(i:Int)+(k:Int))&&onceB N cs (fun i=>(k:Int) - (i:Int))))∧Below w.heap.size w w':=by
 have hN2:=L.le
 have HL:=Lib.hid L
 have HI:=Lib.hid h
 have HQ:=Lib.hid q
 clear L h q
 obtain ⟨R,hR⟩:∃R,R=(onceB N cs (fun i=>(i:Int)+(k:Int))&&onceB N cs (fun i=>(k:Int) - (i:Int))):=⟨_,rfl⟩
 rw[← hR]
 have HD:=Lib.hid hR
 clear hR
 go_enter Tryz.func190,Tryz.ntmps190
 go_upto_region 1 with fail
 have fsz:(w.alloc (.cells #[.int .i64 (k:Int)] 3)).heap.size=w.heap.size+1:=by simp only[World.size_alloc]
 have fB:Below w.heap.size w (w.alloc (.cells #[.int .i64 (k:Int)] 3)):=(Below.refl _ _).alloc (Nat.le_refl _) _
 have fq0:(w.alloc (.cells #[.int .i64 (k:Int)] 3)).heap[w.heap.size]?=some (.cells #[.int .i64 (k:Int)] 3 (0,0)):=by have h:=World.alloc_heap_new w (.cells #[.int .i64 (k:Int)] 3);exact h
 generalize (w.alloc (.cells #[.int .i64 (k:Int)] 3))=W0 at fsz fB fq0 ⊢
 have HB:=Lib.hid fB
 have FQ:=Lib.hid fq0
 obtain ⟨y0,yf,yl⟩:=c1_of fq0
 obtain ⟨x0,x1,x2,xl⟩:=c3_of (keepq fB HQ.out)
 clear fq0 fsz
 have H1:Hid (∀W,Below W0.heap.size W0 W→Calls Tryz.prog 186 #[.agg #[.int .i64 (N:Int),.int .i64 (N:Int),.slice a m c],.func (.func 191) #[] #[.pointer (some ⟨w.heap.size,0,none⟩)]] W fun e w'=>e = .returned (.bool (onceB N cs (fun i=>(i:Int)+(k:Int))))∧Below W.heap.size W w') :=
  fun W hb=>lonce_c N a m c cs 191 #[] #[.pointer (some ⟨w.heap.size,0,none⟩)] (fun i=>(i:Int)+(k:Int)) W (HI.out.mono (keep_trans HB.out hb)) HL.out enterK611 (fun i hi W' hb'=>k611_c i k w.heap.size W' (by omega) (by omega) (keepq hb' (keepq hb FQ.out)))
 have H2:Hid (∀W,Below W0.heap.size W0 W→Calls Tryz.prog 186 #[.agg #[.int .i64 (N:Int),.int .i64 (N:Int),.slice a m c],.func (.func 192) #[] #[.pointer (some ⟨w.heap.size,0,none⟩)]] W fun e w'=>e = .returned (.bool (onceB N cs (fun i=>(k:Int) - (i:Int))))∧Below W.heap.size W w') :=
  fun W hb=>lonce_c N a m c cs 192 #[] #[.pointer (some ⟨w.heap.size,0,none⟩)] (fun i=>(k:Int) - (i:Int)) W (HI.out.mono (keep_trans HB.out hb)) HL.out enterK612 (fun i hi W' hb'=>k612_c i k w.heap.size W' (by omega) (by omega) (keepq hb' (keepq hb FQ.out)))
 generalize onceB N cs (fun i=>(i:Int)+(k:Int))=b1 at H1 HD
 generalize onceB N cs (fun i=>(k:Int) - (i:Int))=b2 at H2 HD
 have HQ2:=Lib.hid (keepq HB.out HQ.out)
 clear HB
 cases b1 with
 | true =>
  go_wp2_with (first|(go_at_call 186;with_reducible refine (H1.out _ (by (repeat (first|assumption|exact Below.refl _ _|refine keep_drew ?_|refine keep_alloc ?_ _|refine keep_trans ?_ (by assumption))))).mono ?_;rintro _ w1 ⟨rfl,hb1⟩;clear x0 x1 x2 xl;obtain ⟨x0,x1,x2,xl⟩:=c3_of (keepq hb1 HQ2.out))|(go_at_call 186;with_reducible refine (H2.out _ (by (repeat (first|assumption|exact Below.refl _ _|refine keep_drew ?_|refine keep_alloc ?_ _|refine keep_trans ?_ (by assumption))))).mono ?_;rintro _ w2 ⟨rfl,hb2⟩)|fail)
  refine bodyPost_ret (v := .bool b2) ?_ rfl ⟨by rw[HD.out];rfl,keep_trans fB (show Below W0.heap.size W0 w2 by (repeat (first|assumption|exact Below.refl _ _|refine keep_drew ?_|refine keep_alloc ?_ _|refine keep_trans ?_ (by assumption))))⟩
  simp[results,Tryz.f190,go_sem]
 | false =>
  go_wp2_with (first|(go_at_call 186;with_reducible refine (H1.out _ (by (repeat (first|assumption|exact Below.refl _ _|refine keep_drew ?_|refine keep_alloc ?_ _|refine keep_trans ?_ (by assumption))))).mono ?_;rintro _ w1 ⟨rfl,hb1⟩)|fail)
  refine bodyPost_ret (v := .bool false) ?_ rfl ⟨by rw[HD.out];rfl,keep_trans fB hb1⟩
  simp[results,Tryz.f190,go_sem]
theorem k6_c (N:Nat) (a:Option Addr) (m c:Nat) (cs:List Int) (w:World) (h:IC w a m cs) (L:Latin N cs) :
  Calls Tryz.prog 189 #[.agg #[.int .i64 (N:Int),.int .i64 (N:Int),.slice a m c]] w fun e w'=>e = .returned (.bool (kPan N cs))∧Below w.heap.size w w':=by
 have hN2:=L.le
 go_enter Tryz.func189,Tryz.ntmps189
 go_upto_region 1 with fail
 have fB:Below w.heap.size w (w.alloc (.cells #[.int .i64 (N:Int),.int .i64 (N:Int),.slice a m c] 24)):=(Below.refl _ _).alloc (Nat.le_refl _) _
 have FQ:Hid ((w.alloc (.cells #[.int .i64 (N:Int),.int .i64 (N:Int),.slice a m c] 24)).heap[w.heap.size]?=some (.cells #[.int .i64 (N:Int),.int .i64 (N:Int),.slice a m c] 24 (0,0))):=World.alloc_heap_new _ _
 generalize (w.alloc (.cells #[.int .i64 (N:Int),.int .i64 (N:Int),.slice a m c] 24))=W0 at fB FQ ⊢
 obtain ⟨x0,x1,x2,xl⟩:=c3_of FQ.out
 have hEV:=every_c N (by omega) 190 #[] #[.pointer (some ⟨w.heap.size,0,none⟩)] (fun k=>onceB N cs (fun i=>(i:Int)+(k:Int))&&onceB N cs (fun i=>(k:Int) - (i:Int))) (fun _ W=>Below W0.heap.size W0 W) W0 enterK61 (Below.refl _ _) (fun k hk W hb=>by
  refine (k61_c N k w.heap.size a m c cs W (h.mono (keep_trans fB hb)) L hk (keepq hb FQ.out)).mono ?_
  rintro e w' ⟨rfl,hb'⟩
  exact ⟨rfl,keep_trans hb hb'⟩)
 have HEV:=Lib.hid hEV
 clear hEV L h
 go_wp2_with (first|(go_at_call 179;refine HEV.out.mono ?_;rintro _ w6 ⟨rfl,k,hb6⟩)|fail)
 refine bodyPost_ret (v := .bool (kPan N cs)) ?_ rfl ⟨rfl,keep_trans fB hb6⟩
 simp[results,Tryz.f189,go_sem,kPan]
end
end Go.Proofs.YtmfpdakaeagdpaaGreat
