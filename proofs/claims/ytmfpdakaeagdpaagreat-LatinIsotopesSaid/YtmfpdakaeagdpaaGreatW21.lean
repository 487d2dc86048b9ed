/- Texts J81 to Reg7 of this proof, in one file. -/
import Derived.Test.YtmfpdakaeagdpaaGreatW01
import Derived.Test.YtmfpdakaeagdpaaGreatW02
import Derived.Test.YtmfpdakaeagdpaaGreatW03
import Derived.Test.YtmfpdakaeagdpaaGreatW04
import Derived.Test.YtmfpdakaeagdpaaGreatW05
import Derived.Test.YtmfpdakaeagdpaaGreatW06
import Derived.Test.YtmfpdakaeagdpaaGreatW07
import Derived.Test.YtmfpdakaeagdpaaGreatW08
import Derived.Test.YtmfpdakaeagdpaaGreatW13
import Derived.Test.YtmfpdakaeagdpaaGreatW19
import Derived.Test.YtmfpdakaeagdpaaGreatW20
import Derived.Below
import Derived.BigFrame
import Derived.BigQuiet
import Derived.Deep.CutBlock
import Derived.Deep.CutRange
import Derived.Deep.LoopGhost
import Derived.Deep.Quiet
import Derived.Deep.RegionHeld3
import Derived.DeepKeys4
import Derived.KernelRfl
import Derived.Laws.BitsAllLaws
import Derived.Lib.Hide
import Derived.Lib.SliceRun
import Derived.LoopIn
import Derived.LoopNIn
import Derived.Maps.AppendAt
import Derived.Maps.OwnIn
import Derived.Maps.OwnSet
import Derived.OneCell
import Derived.OrdersHeld
import Derived.OwnWalkIn
import Derived.RangeFuncBound
import Derived.RangeFuncCalls
import Derived.RangeFuncLeaves
import Derived.RangeFuncNested
import Derived.Shelf.Abstract
import Derived.Still
import Derived.TacticsInMore
import Derived.Test.YtmfpdakaeagdpaaGreatProg
import Derived.WalkKit
import Derived.WalkLawsBesides
import Derived.WalkSpells
import Derived.WideKeyPair
namespace Go.Proofs.YtmfpdakaeagdpaaGreat
set_option maxRecDepth 100000
set_option maxHeartbeats 16000000
section
open Go Go.RowKit
attribute [local go_sem] over_cell
attribute [local go_sem] Oper.semAt_some
theorem k1_c (N:Nat) (a:Option Addr) (m c:Nat) (cs:List Int) (w:World) (h:IC w a m cs) (hcap:m≤c) (L:Latin N cs) :
  Calls Tryz.prog 176 #[.agg #[.int .i64 (N:Int),.int .i64 (N:Int),.slice a m c]] w fun e w'=>e = .returned (.bool (kRed N cs))∧Below w.heap.size w w':=by
 have HM:=Lib.hid (fun W (hb:Below w.heap.size w W)=>reduced_c N a m c cs W (h.mono hb) hcap L)
 have HI:=Lib.hid h
 have hrl:(reduL (-1) N cs).length≤17592186044416:=by rw[(redu_latin (x := -1) L).len];have:=L.le;have:=Nat.mul_le_mul this this;omega
 have HD:Hid (kRed N cs=sameB cs (reduL (-1) N cs)):=rfl
 generalize reduL (-1) N cs=rs at HM HD hrl
 clear h L
 go_enter Tryz.func176,Tryz.ntmps176
 go_upto_region 1 with fail
 have fB:Below w.heap.size w (w.alloc (.cells #[.int .i64 (N:Int),.int .i64 (N:Int),.slice a m c] 24)):=(Below.refl _ _).alloc (Nat.le_refl _) _
 have FQ:Hid ((w.alloc (.cells #[.int .i64 (N:Int),.int .i64 (N:Int),.slice a m c] 24)).heap[w.heap.size]?=some (.cells #[.int .i64 (N:Int),.int .i64 (N:Int),.slice a m c] 24 (0,0))):=World.alloc_heap_new _ _
 generalize (w.alloc (.cells #[.int .i64 (N:Int),.int .i64 (N:Int),.slice a m c] 24))=W0 at fB FQ ⊢
 obtain ⟨x0,x1,x2,xl⟩:=c3_of FQ.out
 refine wp_region_S (fun w'=>∃u,w'=over (W0) u) [6,5] [(0,0),(0,1),(0,2),(1,3),(0,4),(2,5),(2,6)] (by kernel_rfl) (by kernel_rfl) (by exact ⟨_,below_over (by repeat (first|assumption|exact Below.refl _ _|refine keep_drew ?_|refine keep_alloc ?_ _|refine keep_trans ?_ (by assumption)))⟩) ?_
 dsimp only[pickOps,nthOp]
 repeat (first|(refine wpS_skip rfl (fun K hK=>?_);go_big_quiet_op;refine hK _ ?_;clear hK K)|(refine wpS_quiet rfl rfl (fun K hK=>?_);go_big_quiet_op;refine hK _ ?_;clear hK K)|(refine wpS_quiet rfl rfl (fun K hK=>?_);refine ⟨_,fun w' _=>And.intro rfl rfl,?_⟩;refine hK _ ?_;clear hK K)|(refine wpS_loud ?_;go_wp2_with (first|(go_at_call 148;refine (HM.out _ (keep_trans fB (by (repeat (first|assumption|exact Below.refl _ _|refine keep_drew ?_|refine keep_alloc ?_ _|refine keep_trans ?_ (by assumption)))))).mono ?_;rintro _ w1 ⟨a2,c2,rfl,hown2,hb2⟩;have HI2:=Lib.hid (IC.of_owns hown2 hrl).1;have HB2:Hid (Below W0.heap.size W0 w1):=by (unfold Hid;(repeat (first|assumption|exact Below.refl _ _|refine keep_drew ?_|refine keep_alloc ?_ _|refine keep_trans ?_ (by assumption)))))|(go_at_call 177;refine (equal_c a a2 m rs.length c c2 cs rs _ (HI.out.mono (keep_trans fB HB2.out)) HI2.out).mono ?_;rintro _ w2 ⟨rfl,hb3⟩)|fail );refine ⟨?_,?_⟩;focus (exact ⟨_,below_over (by repeat (first|assumption|exact Below.refl _ _|refine keep_drew ?_|refine keep_alloc ?_ _|refine keep_trans ?_ (by assumption)))⟩)))
 refine wpS_late _ _ _ rfl ?_
 dsimp only[List.map]
 go_wp2_with (first|(go_at_call 148;refine (HM.out _ (keep_trans fB (by (repeat (first|assumption|exact Below.refl _ _|refine keep_drew ?_|refine keep_alloc ?_ _|refine keep_trans ?_ (by assumption)))))).mono ?_;rintro _ w1 ⟨a2,c2,rfl,hown2,hb2⟩;have HI2:=Lib.hid (IC.of_owns hown2 hrl).1;have HB2:Hid (Below W0.heap.size W0 w1):=by (unfold Hid;(repeat (first|assumption|exact Below.refl _ _|refine keep_drew ?_|refine keep_alloc ?_ _|refine keep_trans ?_ (by assumption)))))|(go_at_call 177;refine (equal_c a a2 m rs.length c c2 cs rs _ (HI.out.mono (keep_trans fB HB2.out)) HI2.out).mono ?_;rintro _ w2 ⟨rfl,hb3⟩)|fail )
 refine NoPanic.normal ?_
 go_wp2_with fail
 refine bodyPost_ret (v := .bool (sameB cs rs)) ?_ rfl ⟨by rw[HD.out],keep_trans fB (keep_trans HB2.out hb3)⟩
 simp[results,Tryz.f176,go_sem]
theorem symM_lt {N:Nat} {rs:List Int} (L:Latin N rs) {x y:Nat} (hx:x<N) (hy:y<N):rs[x*N+y]?.getD 0=(symM N rs x y:Int)∧symM N rs x y<N:=by
 have hlt:x*N+y<rs.length:=by rw[L.len];exact gcell_lt hx hy
 have:=L.num _ (List.getElem_mem hlt)
 unfold symM
 rw[List.getElem?_eq_getElem hlt,Option.getD_some]
 omega
theorem kg1_c (N k bg bn:Nat) (a:Option Addr) (m c:Nat) (rs:List Int) (w:World) (h:IC w a m rs) (L:Latin N rs) (hk:k<N*N*N)
  (q:w.heap[bg]?=some (.cells #[.int .i64 (N:Int),.int .i64 (N:Int),.slice a m c] 24 (0,0))) (qn:w.heap[bn]?=some (.cells #[.int .i64 (N:Int)] 3 (0,0))) :
  Calls Tryz.prog 203 #[.int .i64 (k:Int),.pointer (some ⟨bn,0,none⟩),.pointer (some ⟨bg,0,none⟩)] w fun e w'=>e = .returned (.bool (symM N rs (symM N rs (k / N / N) (k / N % N)) (k % N)==symM N rs (k / N / N) (symM N rs (k / N % N) (k % N))))∧Below w.heap.size w w':=by
 have hN1:=L.pos
 have hN2:=L.le
 have hm:m=N*N:=by rw[← h.len];exact L.len
 have hNN:N*N≤16*16:=Nat.mul_le_mul hN2 hN2
 have hNNN:N*N*N≤16*16*16:=Nat.mul_le_mul hNN hN2
 have hk4:k<4096:=by omega
 have hd2:k / N / N<N:=Nat.div_lt_of_lt_mul (Nat.div_lt_of_lt_mul (by rw[Nat.mul_comm N (N*N)] at *;exact hk))
 have hyl:k / N % N<N:=Nat.mod_lt _ (by omega)
 have hzl:k % N<N:=Nat.mod_lt _ (by omega)
 have hd1:k / N≤k:=Nat.div_le_self _ _
 obtain ⟨x0,x1,x2,xl⟩:=c3_of q
 obtain ⟨y0,yf,yl⟩:=c1_of qn
 have HAT:∀(i j:Nat) W,Below w.heap.size w W→i<N→j<N→Calls Tryz.prog 116 #[.agg #[.int .i64 (N:Int),.int .i64 (N:Int),.slice a m c],.int .i64 (i:Int),.int .i64 (j:Int)] W fun e w'=>e = .returned (.int .i64 (symM N rs i j:Int))∧Below W.heap.size W w':=fun i j W hb hi hj=>by
  rw[← (symM_lt L hi hj).1]
  exact lat_c (N:Int) N i j a m c rs W (h.mono hb) (by omega) (by omega) hj (by rw[hm];exact gcell_lt hi hj)
 have e1:(k:Int) / (N:Int)=((k / N:Nat):Int):=(Int.natCast_ediv _ _).symm
 have e2:((k / N:Nat):Int) / (N:Int)=((k / N / N:Nat):Int):=(Int.natCast_ediv _ _).symm
 have e3:((k / N:Nat):Int) % (N:Int)=((k / N % N:Nat):Int):=(Int.natCast_emod _ _).symm
 have e4:(k:Int) % (N:Int)=((k % N:Nat):Int):=(Int.natCast_emod _ _).symm
 have hne:(N:Int)≠0:=by omega
 generalize k / N / N=x at e2 hd2 ⊢
 generalize k / N % N=y at e3 hyl ⊢
 generalize k % N=z at e4 hzl ⊢
 generalize k / N=d at e1 e2 e3 hd1
 have H1:=Lib.hid (fun W hb=>HAT x y W hb hd2 hyl)
 have H2:=Lib.hid (fun W hb=>HAT y z W hb hyl hzl)
 have hP:=(symM_lt L hd2 hyl).2
 have hQ:=(symM_lt L hyl hzl).2
 generalize symM N rs x y=P at H1 hP ⊢
 generalize symM N rs y z=Q at H2 hQ ⊢
 have H3:=Lib.hid (fun W hb=>HAT P z W hb hP hzl)
 have H4:=Lib.hid (fun W hb=>HAT x Q W hb hd2 hQ)
 generalize symM N rs P z=S1 at H3 ⊢
 generalize symM N rs x Q=S2 at H4 ⊢
 have HR:Hid ((S1==S2)=((S1:Int)==(S2:Int))):=by
  unfold Hid
  rw[Bool.eq_iff_iff,beq_iff_eq,beq_iff_eq];exact Int.ofNat_inj.symm
 clear h hm q qn L hNN hNNN HAT hk
 go_enter Tryz.func203,Tryz.ntmps203
 go_upto_region 1 with fail
 refine wp_region_S (fun w'=>∃u,w'=over (w) u) [15] [(0,0),(0,1),(0,2),(0,3),(0,4),(0,5),(0,6),(0,7),(0,8),(0,9),(0,10),(0,11),(0,12),(1,13),(1,14),(2,15)] (by kernel_rfl) (by kernel_rfl) (by exact ⟨_,below_over (by repeat (first|assumption|exact Below.refl _ _|refine keep_drew ?_|refine keep_alloc ?_ _|refine keep_trans ?_ (by assumption)))⟩) ?_
 dsimp only[pickOps,nthOp]
 repeat (first|(refine wpS_skip rfl (fun K hK=>?_);go_big_quiet_op;refine hK _ ?_;clear hK K)|(refine wpS_quiet rfl rfl (fun K hK=>?_);go_big_quiet_op;refine hK _ ?_;clear hK K)|(refine wpS_loud ?_;go_wp2;refine ⟨?_,?_⟩;focus (exact ⟨_,below_over (by repeat (first|assumption|exact Below.refl _ _|refine keep_drew ?_|refine keep_alloc ?_ _|refine keep_trans ?_ (by assumption)))⟩)))
 refine wpS_late _ _ _ rfl ?_
 dsimp only[List.map]
 go_wp2
 refine NoPanic.normal ?_
 go_upto_region 2 with fail
 refine wp_region_S (fun w'=>∃u,w'=over (w) u) [15] [(0,0),(0,1),(0,2),(0,3),(0,5),(0,7),(0,8),(0,9),(0,10),(0,11),(1,4),(1,6),(1,12),(1,13),(0,14),(2,15)] (by kernel_rfl) (by kernel_rfl) (by exact ⟨_,below_over (by repeat (first|assumption|exact Below.refl _ _|refine keep_drew ?_|refine keep_alloc ?_ _|refine keep_trans ?_ (by assumption)))⟩) ?_
 dsimp only[pickOps,nthOp]
 repeat (first|(refine wpS_skip rfl (fun K hK=>?_);go_big_quiet_op;refine hK _ ?_;clear hK K)|(refine wpS_quiet rfl rfl (fun K hK=>?_);go_big_quiet_op;refine hK _ ?_;clear hK K)|(refine wpS_loud ?_;go_wp2_with (first|(go_at_call 116;with_reducible refine (H1.out _ (by (repeat (first|assumption|exact Below.refl _ _|refine keep_drew ?_|refine keep_alloc ?_ _|refine keep_trans ?_ (by assumption))))).mono ?_;rintro _ w1 ⟨rfl,hb1⟩)|(go_at_call 116;with_reducible refine (H2.out _ (by (repeat (first|assumption|exact Below.refl _ _|refine keep_drew ?_|refine keep_alloc ?_ _|refine keep_trans ?_ (by assumption))))).mono ?_;rintro _ w2 ⟨rfl,hb2⟩)|(go_at_call 116;with_reducible refine (H3.out _ (by (repeat (first|assumption|exact Below.refl _ _|refine keep_drew ?_|refine keep_alloc ?_ _|refine keep_trans ?_ (by assumption))))).mono ?_;rintro _ w3 ⟨rfl,hb3⟩)|(go_at_call 116;with_reducible refine (H4.out _ (by (repeat (first|assumption|exact Below.refl _ _|refine keep_drew ?_|refine keep_alloc ?_ _|refine keep_trans ?_ (by assumption))))).mono ?_;rintro _ w4 ⟨rfl,hb4⟩)|fail);refine ⟨?_,?_⟩;focus (exact ⟨_,below_over (by repeat (first|assumption|exact Below.refl _ _|refine keep_drew ?_|refine keep_alloc ?_ _|refine keep_trans ?_ (by assumption)))⟩)))
 refine wpS_late _ _ _ rfl ?_
 dsimp only[List.map]
 go_wp2_with (first|(go_at_call 116;with_reducible refine (H1.out _ (by (repeat (first|assumption|exact Below.refl _ _|refine keep_drew ?_|refine keep_alloc ?_ _|refine keep_trans ?_ (by assumption))))).mono ?_;rintro _ w1 ⟨rfl,hb1⟩)|(go_at_call 116;with_reducible refine (H2.out _ (by (repeat (first|assumption|exact Below.refl _ _|refine keep_drew ?_|refine keep_alloc ?_ _|refine keep_trans ?_ (by assumption))))).mono ?_;rintro _ w2 ⟨rfl,hb2⟩)|(go_at_call 116;with_reducible refine (H3.out _ (by (repeat (first|assumption|exact Below.refl _ _|refine keep_drew ?_|refine keep_alloc ?_ _|refine keep_trans ?_ (by assumption))))).mono ?_;rintro _ w3 ⟨rfl,hb3⟩)|(go_at_call 116;with_reducible refine (H4.out _ (by (repeat (first|assumption|exact Below.refl _ _|refine keep_drew ?_|refine keep_alloc ?_ _|refine keep_trans ?_ (by assumption))))).mono ?_;rintro _ w4 ⟨rfl,hb4⟩)|fail)
 refine NoPanic.normal ?_
 go_wp2_with fail
 refine bodyPost_ret (v := .bool ((S1:Int)==(S2:Int))) ?_ rfl ⟨by rw[HR.out],show Below w.heap.size w w4 by (repeat (first|assumption|exact Below.refl _ _|refine keep_drew ?_|refine keep_alloc ?_ _|refine keep_trans ?_ (by assumption)))⟩
 simp[results,Tryz.f203,go_sem]
end
section
open Go Go.RowKit
inductive PT3 where
 | leaf (s:List (Nat × Nat)):PT3
 | fork (qs:List Nat) (i j:Nat) (ti tj:PT3):PT3
 | fork3 (qs:List Nat) (i j k:Nat) (ti tj tk:PT3):PT3
 | step (qs:List Nat) (i:Nat) (t:PT3):PT3
def PT3.depth:PT3→Nat
 | .leaf s=>s.length
 | .fork qs _ _ ti _=>qs.length+(ti.depth+1)
 | .fork3 qs _ _ _ ti _ _=>qs.length+(ti.depth+1)
 | .step qs _ t=>qs.length+(t.depth+1)
section
variable {P:Program} {ops:Array Oper} {Q:Exit→Act→World→Prop} {md:Region.Mode} {S:World→Prop}
def forkPre3 (md:Region.Mode) (ops:Array Oper) (lt:List Nat) (i j m:Nat) (F:Array Bool→Bool):List Nat→Array Bool→Bool
 | [],listed=>((Region.ready md ops listed)==[i,j,m])&&F listed
 | k :: qs,listed =>
  (Region.ready md ops listed).contains k&&Region.free md ops listed k&&!lt.contains k&&lt.all (fun j=>(closure md ops ops.size (aftersOf md ops j)).contains k)&&forkPre3 md ops lt i j m F qs (listed.setIfInBounds k true)
def forkPre1 (md:Region.Mode) (ops:Array Oper) (lt:List Nat) (i:Nat) (F:Array Bool→Bool):List Nat→Array Bool→Bool
 | [],listed=>((Region.ready md ops listed)==[i])&&F listed
 | k :: qs,listed =>
  (Region.ready md ops listed).contains k&&Region.free md ops listed k&&!lt.contains k&&lt.all (fun j=>(closure md ops ops.size (aftersOf md ops j)).contains k)&&forkPre1 md ops lt i F qs (listed.setIfInBounds k true)
def treeOk3 (md:Region.Mode) (ops:Array Oper) (lt:List Nat):PT3→Array Bool→Bool
 | .leaf s,listed=>decide (0<(s.filter fun x=>decide (x.1≤1)).length)&&seqOk md ops lt s listed
 | .fork qs i j ti tj,listed=>decide (tj.depth=ti.depth)&&!lt.contains i&&!lt.contains j &&
  forkPre md ops lt i j (fun l=>treeOk3 md ops lt ti (l.setIfInBounds i true)&&treeOk3 md ops lt tj (l.setIfInBounds j true)) qs listed
 | .fork3 qs i j k ti tj tk,listed=>decide (tj.depth=ti.depth)&&decide (tk.depth=ti.depth)&&!lt.contains i&&!lt.contains j&&!lt.contains k &&
  forkPre3 md ops lt i j k (fun l=>treeOk3 md ops lt ti (l.setIfInBounds i true)&&treeOk3 md ops lt tj (l.setIfInBounds j true)&&treeOk3 md ops lt tk (l.setIfInBounds k true)) qs listed
 | .step qs i t,listed=>!lt.contains i&&forkPre1 md ops lt i (fun l=>treeOk3 md ops lt t (l.setIfInBounds i true)) qs listed
def wpTr3 (P:Program) (ops:Array Oper) (S:World→Prop) (Q:Exit→Act→World→Prop):PT3→Act→World→Prop
 | .leaf s,a,w=>wpS P ops S Q (pickOps ops.toList s) a w
 | .fork qs i j ti tj,a,w=>wpS P ops S (KQ (wpTr3 P ops S Q ti) Q) (pickOps ops.toList (qs.map (fun k=>(0,k))++[(1,i)])) a w ∧
   wpS P ops S (KQ (wpTr3 P ops S Q tj) Q) (pickOps ops.toList (qs.map (fun k=>(0,k))++[(1,j)])) a w
 | .fork3 qs i j k ti tj tk,a,w=>wpS P ops S (KQ (wpTr3 P ops S Q ti) Q) (pickOps ops.toList (qs.map (fun k=>(0,k))++[(1,i)])) a w ∧
   wpS P ops S (KQ (wpTr3 P ops S Q tj) Q) (pickOps ops.toList (qs.map (fun k=>(0,k))++[(1,j)])) a w ∧
   wpS P ops S (KQ (wpTr3 P ops S Q tk) Q) (pickOps ops.toList (qs.map (fun k=>(0,k))++[(1,k)])) a w
 | .step qs i t,a,w=>wpS P ops S (KQ (wpTr3 P ops S Q t) Q) (pickOps ops.toList (qs.map (fun k=>(0,k))++[(1,i)])) a w
theorem wpL_of_pre3 (hs:Region.noSelect ops=true) (lt:List Nat) (i j m:Nat) (F:Array Bool→Bool) (d:Nat) (Ki Kj Km:Act→World→Prop) (hQ:∀c a d v w,Q (.panic c) (Act.put a d v) w→Q (.panic c) a w)
  (hni:lt.contains i=false) (hnj:lt.contains j=false) (hnm:lt.contains m=false)
  (hF:∀listed,F listed=true→Closed md ops listed→(i∈Region.ready md ops listed→∀a' w',S w'→Ki a' w'→wpL P md ops Q S (fun i=>lt.contains i) d (listed.setIfInBounds i true) a' w')∧(j∈Region.ready md ops listed→∀a' w',S w'→Kj a' w'→wpL P md ops Q S (fun i=>lt.contains i) d (listed.setIfInBounds j true) a' w')∧(m∈Region.ready md ops listed→∀a' w',S w'→Km a' w'→wpL P md ops Q S (fun i=>lt.contains i) d (listed.setIfInBounds m true) a' w')) :
  ∀(qs:List Nat) (listed:Array Bool) (a:Act) (w:World),Closed md ops listed→S w→forkPre3 md ops lt i j m F qs listed=true →
   wpS P ops S (KQ Ki Q) (pickOps ops.toList (qs.map (fun k=>(0,k))++[(1,i)])) a w→wpS P ops S (KQ Kj Q) (pickOps ops.toList (qs.map (fun k=>(0,k))++[(1,j)])) a w →
   wpS P ops S (KQ Km Q) (pickOps ops.toList (qs.map (fun k=>(0,k))++[(1,m)])) a w →
   wpL P md ops Q S (fun i=>lt.contains i) (qs.length+(d+1)) listed a w
 | [],listed,a,w,hcl,hSw,hc,h1,h2,h3=>by
  simp only[forkPre3,Bool.and_eq_true,beq_iff_eq] at hc
  obtain ⟨hr,hc1⟩:=hc
  rw[show ([]:List Nat).length+(d+1)=d+1 from by simp]
  refine ⟨fun h0=>absurd (hr▸h0) (by simp),fun k hk=>?_⟩
  have hk':=hk
  rw[hr] at hk'
  rcases List.mem_cons.1 hk' with rfl|hk2
  ·exact loud_K hk hni hSw ((hF listed hc1 hcl).1 hk) h1
  ·rcases List.mem_cons.1 hk2 with rfl|hk3
   ·exact loud_K hk hnj hSw ((hF listed hc1 hcl).2.1 hk) h2
   ·obtain rfl:k=m:=by simpa using hk3
    exact loud_K hk hnm hSw ((hF listed hc1 hcl).2.2 hk) h3
 | k :: qs,listed,a,w,hcl,hSw,hc,h1,h2,h3=>by
  simp only[forkPre3,Bool.and_eq_true] at hc
  obtain ⟨⟨⟨⟨hr,hf⟩,hnl⟩,hla⟩,hc'⟩:=hc
  obtain ⟨oi,hoi⟩:∃oi,ops[k]?=some oi:=by
   obtain ⟨_,oi,h1,_⟩:=(mem_ready (md:=md) (ops:=ops) (listed:=listed) (j:=k)).1 (by simpa using hr)
   exact ⟨oi,h1⟩
  have hp:nthOp ops.toList k=some oi:=by rw[nthOp_eq];simpa using hoi
  have hnl':lt.contains k=false:=by simpa using hnl
  have hlate:∀j listed,lt.contains j=true→Closed md ops listed→j∈Region.ready md ops listed→listed.getD k false=true:=by
   intro j listed' hl hcl' hj
   have h1:=List.all_eq_true.1 hla j (by simpa using hl)
   exact closure_listed hcl' _ _ (ready_afters hj) k (by simpa using h1)
  simp only[List.map_cons,List.cons_append,pickOps,hp,wpS] at h1 h2 h3
  rw[show (k :: qs).length+(d+1)=(qs.length+(d+1))+1 from by simp only[List.length_cons];omega]
  have key:∀v,YieldsIf P ops S oi v a→wpS P ops S (KQ Ki Q) (pickOps ops.toList (qs.map (fun k=>(0,k))++[(1,i)])) (a.put oi.dst v) w→wpS P ops S (KQ Kj Q) (pickOps ops.toList (qs.map (fun k=>(0,k))++[(1,j)])) (a.put oi.dst v) w→wpS P ops S (KQ Km Q) (pickOps ops.toList (qs.map (fun k=>(0,k))++[(1,m)])) (a.put oi.dst v) w→wpL P md ops Q S (fun i=>lt.contains i) (qs.length+(d+1)+1) listed a w:=by
   intro v hy k1 k2 k3
   exact wpL_first hoi (Region.noSelect_spec hs) (fun c a' w'=>hQ c a' _ _ w') hnl' hlate (qs.length+(d+1)) listed a w hcl (Region.free_spec hoi hf) (by simpa using hr) hy hSw
    (wpL_of_pre3 hs lt i j m F d Ki Kj Km hQ hni hnj hnm hF qs _ _ w (hcl.set (by simpa using hr)) hSw hc' k1 k2 k3)
  by_cases hw:Region.wanted oi (yielded ops a.tmps)=true
  ·rw[if_pos hw] at h1 h2 h3
   obtain ⟨v,hv,hK⟩:=h1
   obtain ⟨v2,hv2,hK2⟩:=h2
   obtain ⟨v3,hv3,hK3⟩:=h3
   have e:=(hv w hSw).symm.trans (hv2 w hSw)
   simp only[Result.ok.injEq,Next.value.injEq,and_true] at e
   subst e
   have e:=(hv w hSw).symm.trans (hv3 w hSw)
   simp only[Result.ok.injEq,Next.value.injEq,and_true] at e
   subst e
   exact key v (.inl ⟨hw,hv⟩) hK hK2 hK3
  ·rw[if_neg hw] at h1 h2 h3
   exact key undef (.inr ⟨by simpa using hw,rfl⟩) h1 h2 h3
theorem wpL_of_pre1 (hs:Region.noSelect ops=true) (lt:List Nat) (i:Nat) (F:Array Bool→Bool) (d:Nat) (Ki:Act→World→Prop) (hQ:∀c a d v w,Q (.panic c) (Act.put a d v) w→Q (.panic c) a w)
  (hni:lt.contains i=false)
  (hF:∀listed,F listed=true→Closed md ops listed→(i∈Region.ready md ops listed→∀a' w',S w'→Ki a' w'→wpL P md ops Q S (fun i=>lt.contains i) d (listed.setIfInBounds i true) a' w')) :
  ∀(qs:List Nat) (listed:Array Bool) (a:Act) (w:World),Closed md ops listed→S w→forkPre1 md ops lt i F qs listed=true →
   wpS P ops S (KQ Ki Q) (pickOps ops.toList (qs.map (fun k=>(0,k))++[(1,i)])) a w →
   wpL P md ops Q S (fun i=>lt.contains i) (qs.length+(d+1)) listed a w
 | [],listed,a,w,hcl,hSw,hc,h1=>by
  simp only[forkPre1,Bool.and_eq_true,beq_iff_eq] at hc
  obtain ⟨hr,hc1⟩:=hc
  rw[show ([]:List Nat).length+(d+1)=d+1 from by simp]
  refine ⟨fun h0=>absurd (hr▸h0) (by simp),fun k hk=>?_⟩
  have hk':=hk
  rw[hr] at hk'
  obtain rfl:k=i:=by simpa using hk'
  exact loud_K hk hni hSw (hF listed hc1 hcl hk) h1
 | k :: qs,listed,a,w,hcl,hSw,hc,h1=>by
  simp only[forkPre1,Bool.and_eq_true] at hc
  obtain ⟨⟨⟨⟨hr,hf⟩,hnl⟩,hla⟩,hc'⟩:=hc
  obtain ⟨oi,hoi⟩:∃oi,ops[k]?=some oi:=by
   obtain ⟨_,oi,h1,_⟩:=(mem_ready (md:=md) (ops:=ops) (listed:=listed) (j:=k)).1 (by simpa using hr)
   exact ⟨oi,h1⟩
  have hp:nthOp ops.toList k=some oi:=by rw[nthOp_eq];simpa using hoi
  have hnl':lt.contains k=false:=by simpa using hnl
  have hlate:∀j listed,lt.contains j=true→Closed md ops listed→j∈Region.ready md ops listed→listed.getD k false=true:=by
   intro j listed' hl hcl' hj
   have h1:=List.all_eq_true.1 hla j (by simpa using hl)
   exact closure_listed hcl' _ _ (ready_afters hj) k (by simpa using h1)
  simp only[List.map_cons,List.cons_append,pickOps,hp,wpS] at h1
  rw[show (k :: qs).length+(d+1)=(qs.length+(d+1))+1 from by simp only[List.length_cons];omega]
  have key:∀v,YieldsIf P ops S oi v a→wpS P ops S (KQ Ki Q) (pickOps ops.toList (qs.map (fun k=>(0,k))++[(1,i)])) (a.put oi.dst v) w→wpL P md ops Q S (fun i=>lt.contains i) (qs.length+(d+1)+1) listed a w:=by
   intro v hy k1
   exact wpL_first hoi (Region.noSelect_spec hs) (fun c a' w'=>hQ c a' _ _ w') hnl' hlate (qs.length+(d+1)) listed a w hcl (Region.free_spec hoi hf) (by simpa using hr) hy hSw
    (wpL_of_pre1 hs lt i F d Ki hQ hni hF qs _ _ w (hcl.set (by simpa using hr)) hSw hc' k1)
  by_cases hw:Region.wanted oi (yielded ops a.tmps)=true
  ·rw[if_pos hw] at h1
   obtain ⟨v,hv,hK⟩:=h1
   exact key v (.inl ⟨hw,hv⟩) hK
  ·rw[if_neg hw] at h1
   exact key undef (.inr ⟨by simpa using hw,rfl⟩) h1
theorem wpL_of_tree3 (hs:Region.noSelect ops=true) (lt:List Nat) (hQ:∀c a d v w,Q (.panic c) (Act.put a d v) w→Q (.panic c) a w) :
  ∀(t:PT3) (listed:Array Bool) (a:Act) (w:World),Closed md ops listed→S w→treeOk3 md ops lt t listed=true→wpTr3 P ops S Q t a w →
   wpL P md ops Q S (fun i=>lt.contains i) t.depth listed a w
 | .leaf s,listed,a,w,hcl,hSw,hc,h=>by
  simp only[treeOk3,Bool.and_eq_true] at hc
  exact wpL_of_S hs lt hQ s listed a w hcl (fun _=>hSw) hc.2 h
 | .fork qs i j ti tj,listed,a,w,hcl,hSw,hc,h=>by
  simp only[treeOk3,Bool.and_eq_true,decide_eq_true_eq] at hc
  obtain ⟨⟨⟨hd,hni⟩,hnj⟩,hpre⟩:=hc
  refine wpL_of_pre hs lt i j _ ti.depth (wpTr3 P ops S Q ti) (wpTr3 P ops S Q tj) hQ (by simpa using hni) (by simpa using hnj) (fun l hl hcl2=>?_) qs listed a w hcl hSw hpre h.1 h.2
  simp only[Bool.and_eq_true] at hl
  refine ⟨fun hr a' w' hS' hK=>wpL_of_tree3 hs lt hQ ti _ a' w' (hcl2.set hr) hS' hl.1 hK,fun hr a' w' hS' hK=>?_⟩
  rw[← hd]
  exact wpL_of_tree3 hs lt hQ tj _ a' w' (hcl2.set hr) hS' hl.2 hK
 | .fork3 qs i j k ti tj tk,listed,a,w,hcl,hSw,hc,h=>by
  simp only[treeOk3,Bool.and_eq_true,decide_eq_true_eq] at hc
  obtain ⟨⟨⟨⟨⟨hd,hd2⟩,hni⟩,hnj⟩,hnk⟩,hpre⟩:=hc
  refine wpL_of_pre3 hs lt i j k _ ti.depth (wpTr3 P ops S Q ti) (wpTr3 P ops S Q tj) (wpTr3 P ops S Q tk) hQ (by simpa using hni) (by simpa using hnj) (by simpa using hnk) (fun l hl hcl2=>?_) qs listed a w hcl hSw hpre h.1 h.2.1 h.2.2
  simp only[Bool.and_eq_true] at hl
  refine ⟨fun hr a' w' hS' hK=>wpL_of_tree3 hs lt hQ ti _ a' w' (hcl2.set hr) hS' hl.1.1 hK,fun hr a' w' hS' hK=>?_,fun hr a' w' hS' hK=>?_⟩
  ·rw[← hd]
   exact wpL_of_tree3 hs lt hQ tj _ a' w' (hcl2.set hr) hS' hl.1.2 hK
  ·rw[← hd2]
   exact wpL_of_tree3 hs lt hQ tk _ a' w' (hcl2.set hr) hS' hl.2 hK
 | .step qs i t,listed,a,w,hcl,hSw,hc,h=>by
  simp only[treeOk3,Bool.and_eq_true] at hc
  obtain ⟨hni,hpre⟩:=hc
  exact wpL_of_pre1 hs lt i _ t.depth (wpTr3 P ops S Q t) hQ (by simpa using hni) (fun l hl hcl2 hr a' w' hS' hK=>wpL_of_tree3 hs lt hQ t _ a' w' (hcl2.set hr) hS' hl hK) qs listed a w hcl hSw hpre h
theorem wpTr3_step {S:World→Prop} {qs:List Nat} {i:Nat} {t:PT3} {a:Act} {w:World} (h:wpS P ops S (KQ (wpTr3 P ops S Q t) Q) (pickOps ops.toList (qs.map (fun k=>(0,k))++[(1,i)])) a w):wpTr3 P ops S Q (.step qs i t) a w:=h
theorem wp_region_tree3 {id:Nat} {l:List Oper} {a:Act} {w:World} (S:World→Prop) (lt:List Nat) (t:PT3)
  (hm:P.follows .mixedOrders=true) (hc:(Region.noSelect l.toArray&&decide (t.depth≤l.length)&&treeOk3 .any l.toArray lt t (Array.replicate l.length false))=true)
  (hS:S w.drew) (h:wpTr3 P l.toArray S (NoPanic Q) t a w.drew):(Code.region id l.toArray true).wp P Q a w:=by
 refine wp_region_noPanic ?_
 simp only[Bool.and_eq_true,decide_eq_true_eq] at hc
 obtain ⟨⟨hs,hlen⟩,hc⟩:=hc
 refine wp_region_any hm ?_
 obtain ⟨m,hm'⟩:∃m,l.toArray.size=t.depth+m:=⟨l.length - t.depth,by simp;omega⟩
 rw[hm']
 refine wpAny_more _ _ _ _ _ (wpAny_of_L (S:=S) (late:=fun i=>lt.contains i) _ _ _ _ ?_)
 have e:Array.replicate (t.depth+m) false=Array.replicate l.length false:=by rw[← hm'];simp
 rw[e]
 exact wpL_of_tree3 hs lt (fun _ _ _ _ _ h=>h) t _ a w.drew (closed_none _) hS hc h
end
end
end Go.Proofs.YtmfpdakaeagdpaaGreat
