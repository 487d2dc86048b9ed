/- Texts J35 to J36 of this proof, in one file. -/
import Derived.Test.YtmfpdakaeagdpaaGreatW01
import Derived.Test.YtmfpdakaeagdpaaGreatW02
import Derived.Test.YtmfpdakaeagdpaaGreatW03
import Derived.Test.YtmfpdakaeagdpaaGreatW04
import Derived.Test.YtmfpdakaeagdpaaGreatW05
import Derived.Test.YtmfpdakaeagdpaaGreatW06
import Derived.Test.YtmfpdakaeagdpaaGreatW07
import Derived.Test.YtmfpdakaeagdpaaGreatW08
import Derived.Test.YtmfpdakaeagdpaaGreatW09
import Derived.Test.YtmfpdakaeagdpaaGreatW10
import Derived.Below
import Derived.BigFrame
import Derived.BigQuiet
import Derived.Deep.CutBlock
import Derived.Deep.CutRange
import Derived.Deep.LoopGhost
import Derived.Deep.Quiet
import Derived.Deep.RegionHeld3
import Derived.DeepKeys4
import Derived.KernelRfl
import Derived.Laws.BitsAllLaws
import Derived.Laws.EntriesVeiled
import Derived.Lib.Hide
import Derived.Lib.SliceRun
import Derived.LoopIn
import Derived.LoopNIn
import Derived.Maps.AppendAt
import Derived.Maps.OwnIn
import Derived.Maps.OwnSet
import Derived.OneCell
import Derived.OrdersHeld
import Derived.OrdersIn
import Derived.OwnWalkIn
import Derived.RangeFuncBound
import Derived.RangeFuncCalls
import Derived.RangeFuncLeaves
import Derived.RangeFuncNested
import Derived.Shelf.Abstract
import Derived.Still
import Derived.TacticsIn
import Derived.TacticsInMore
import Derived.Test.YtmfpdakaeagdpaaGreatProg
import Derived.WalkKit
import Derived.WalkLawsBesides
import Derived.WalkSpells
import Derived.WideKeyPair
namespace Go.Proofs.YtmfpdakaeagdpaaGreat
set_option maxRecDepth 100000
set_option maxHeartbeats 16000000
section
open Go Go.RowKit
attribute [local go_sem] over_cell
attribute [local go_sem] Oper.semAt_some
theorem fill_c (c:CC) (hx:CFix c) (J Jx:List (Value × List Int)→(Nat→Prop)→World→Prop) (hJs:StableM J) (hJxs:StableM Jx)
  (hY:∀pre x M W0 W1,J pre M W0→Below W0.heap.size W0 W1→NewC x W0→GivenC c x M W1→(pre++[x]).map Prod.snd <+: c.L0→YieldAt Fence.wide 0 Tryz.prog c.l (encC c x) W1 fun e W' =>
   (e = .returned (.bool true)∧J (pre++[x]) M W'∧KpC c M W1 W')∨(e = .returned (.bool false)∧Jx (pre++[x]) M W'∧KpC c M W1 W')) :
  ∀(d k:Nat) (W:World) (cs F:List Int) (M:Nat→Prop) (pre:List (Value × List Int)),k+d=c.m→CS c W cs F k→(∀k,c.M k→M k)→(∀k,M k→k<W.heap.size)→pre.map Prod.snd++compP c.n c.ok d k cs <+: c.L0→J pre M W →
   Calls Tryz.prog 156 (#[.int .i64 (k:Int)]++c.caps) W (FillQ c J Jx M pre (compP c.n c.ok d k cs) k cs W):=by
 intro d
 induction d with
 | zero =>
  intro k W cs F M pre hd h h1 h2 hL h0
  have e:k=c.m:=by omega
  rw[e] at h hL ⊢
  exact fill0_c c hx J Jx hY W cs F M pre h h1 h2 hL h0
 | succ d ih=>exact fun k W cs F M pre hd h h1 h2 hL h0=>fillS_c c hx J Jx hJs hJxs d ih k W cs F M pre hd h h1 h2 hL h0
structure Part (n:Nat) (ps:List Int):Prop where
 n1:1≤n
 n2:n≤16
 len:ps.length=n*n
 ge:∀j:Nat,-1≤ps[j]?.getD 0
 lt:∀j:Nat,ps[j]?.getD 0<(n:Int)
 once:twiceB n ps=false
structure Gp (n:Nat) (ps cs:List Int) (k:Nat):Prop where
 len:cs.length=n*n
 lo:∀j,j<k→j<n*n→0≤cs[j]?.getD 0
 lt:∀j:Nat,cs[j]?.getD 0<(n:Int)
 hi:∀j,k≤j→cs[j]?.getD 0=ps[j]?.getD 0
structure SideP (n:Nat) (ps:List Int) (fk:Nat) (fcaps:Array Value) (nk:Nat) (ncaps:Array Value) (Old MN:Nat→Prop) (ok:Nat→Int→List Int→Bool) (Nt:List Int→World→Prop):Prop where
 keep:∀cs W W',Nt cs W→W.heap.size≤W'.heap.size→(∀k,Old k∨MN k→W'.heap[k]?=W.heap[k]?)→Nt cs W'
 free:∀cs (k x:Nat) W,Nt cs W→(∀k,Old k→k<W.heap.size)→Gp n ps cs k→k<n*n→x<n→Calls Tryz.prog fk (#[.int .i64 (k:Int),.int .i64 (x:Int)]++fcaps) W fun e w'=>e = .returned (.bool (ok k (x:Int) cs))∧Below W.heap.size W w'
 noteT:∀cs (k x:Nat) W,Nt cs W→(∀k,Old k→k<W.heap.size)→Gp n ps cs k→k<n*n→x<n→ps[k]?.getD 0<0→ok k (x:Int) cs=true→Calls Tryz.prog nk (#[.int .i64 (k:Int),.int .i64 (x:Int),.bool true]++ncaps) W fun e w'=>e = .returned (.tuple #[])∧Nt (cs.set k (x:Int)) w'∧Stays MN W w'
 noteF:∀cs (k x:Nat) W,Nt (cs.set k (x:Int)) W→(∀k,Old k→k<W.heap.size)→Gp n ps cs k→k<n*n→x<n→ps[k]?.getD 0<0→ok k (x:Int) cs=true→Calls Tryz.prog nk (#[.int .i64 (k:Int),.int .i64 (x:Int),.bool false]++ncaps) W fun e w'=>e = .returned (.tuple #[])∧Nt cs w'∧Stays MN W w'
 frun:∀args w,Sem.run Tryz.prog (callFunc fk args) w = .ok (.enter fk args) w
 nrun:∀args w,Sem.run Tryz.prog (callFunc nk args) w = .ok (.enter nk args) w
def encG (n:Nat) (x:Value × List Int):Array Value:=#[.agg #[.int .i64 (n:Int),.int .i64 (n:Int),x.1]]
def GivenG (m:Nat) (Prot:Nat→Prop) (x:Value × List Int) (M:Nat→Prop) (W:World):Prop :=
 W.ownsRow 0 3 1 x.1 x.2.length (x.2.map (Value.int .i64))∧(∀k,x.1.ownBlock=some k→¬Prot k∧¬M k)∧(∀k,M k→k<W.heap.size)∧x.2.length=m
def KpG (Prot:Nat→Prop) (M:Nat→Prop) (A B:World):Prop:=A.heap.size≤B.heap.size∧∀k,k<A.heap.size→Prot k∨M k→B.heap[k]?=A.heap[k]?
theorem comp1_c (bP bFr bNo:Nat) (n:Nat) (a:Option Addr) (m c:Nat) (ps:List Int) (fk:Nat) (fcaps:Array Value) (nk:Nat) (ncaps:Array Value) (W:World) (Old MN:Nat→Prop) (ok:Nat→Int→List Int→Bool) (Nt:List Int→World→Prop)
  (S:SideP n ps fk fcaps nk ncaps Old MN ok Nt) (hp:Part n ps) (hm:m=n*n)
  (hqP:W.heap[bP]?=some (.cells #[.int .i64 (n:Int),.int .i64 (n:Int),.slice a m c] 24 (0,0)))
  (hqFr:W.heap[bFr]?=some (.cells #[.func (.func fk) #[] fcaps] 111 (0,0)))
  (hqNo:W.heap[bNo]?=some (.cells #[.func (.func nk) #[] ncaps] 112 (0,0)))
  (hic:Sure Old W (fun w=>IC w a m ps)) (hOl:∀k,Old k→k<W.heap.size) (hMN:∀k,MN k→k<W.heap.size) (hap:∀k,MN k→¬Old k∧k≠bP∧k≠bFr∧k≠bNo) (hNt:Nt ps W)
  (l:Nat) (J Jx:List (Value × List Int)→(Nat→Prop)→World→Prop) (hJ:StableM J) (hJx:StableM Jx)
  (hY:∀pre x M W0 W1,J pre M W0→Below W0.heap.size W0 W1→NewC x W0→GivenG m (fun k=>Old k∨k=bP∨k=bFr∨k=bNo) x M W1→(pre++[x]).map Prod.snd <+: compP n ok m 0 ps→YieldAt Fence.wide 0 Tryz.prog l (encG n x) W1 fun e W' =>
   (e = .returned (.bool true)∧J (pre++[x]) M W'∧KpG (fun k=>Old k∨k=bP∨k=bFr∨k=bNo) M W1 W')∨(e = .returned (.bool false)∧Jx (pre++[x]) M W'∧KpG (fun k=>Old k∨k=bP∨k=bFr∨k=bNo) M W1 W'))
  (h0:J [] MN W) :
  Calls Tryz.prog 154 #[.func (.yield l) #[] #[],.pointer (some ⟨bP,0,none⟩),.pointer (some ⟨bFr,0,none⟩),.pointer (some ⟨bNo,0,none⟩)] W fun e W'=>(∃v,e = .returned v) ∧
   ((∃xs M,xs.map Prod.snd=compP n ok m 0 ps∧J xs M W')∨(∃pre M,(pre.map Prod.snd <+: compP n ok m 0 ps∧pre≠[])∧Jx pre M W')):=by
 have HS:=Lib.hid S
 have HP:=Lib.hid hp
 have HM:=Lib.hid hm
 have HIC:=Lib.hid hic
 have HOL:=Lib.hid hOl
 have HMN:=Lib.hid hMN
 have HAP:=Lib.hid hap
 have HNT:=Lib.hid hNt
 have HJ:=Lib.hid hJ
 have HJX:=Lib.hid hJx
 have HY:=Lib.hid hY
 have H0:=Lib.hid h0
 have hn1:=hp.n1
 have hn2:=hp.n2
 have hmb:m≤256:=by rw[hm];exact Nat.le_trans (Nat.mul_le_mul hn2 hn2) (by decide)
 have QP:=Lib.hid hqP
 have QFr:=Lib.hid hqFr
 have QNo:=Lib.hid hqNo
 clear S hp hm hic hOl hMN hap hNt hJ hJx hY h0 hqP hqFr hqNo
 go_enter Tryz.func154,Tryz.ntmps154
 have hB0:Below W.heap.size W (W.alloc (.cells #[.func (.yield l) #[] #[]] 34)):=(Below.refl _ _).alloc (Nat.le_refl _) _
 have w0:(W.alloc (.cells #[.func (.yield l) #[] #[]] 34)).cell? ⟨bP,0,none⟩=some (.int .i64 (n:Int)):=q_cell (keepq hB0 QP.out) 0
 have w1:=q_lt (keepq hB0 QP.out)
 have w2:=q_lt QP.out
 go_upto_region 3 with fail
 clear w0 w1 w2 hB0
 have fsz:(((W.alloc (.cells #[.func (.yield l) #[] #[]] 34)).alloc (.cells #[.int .i64 (n:Int)] 3)).alloc (.cells #[.int .u32 0,.int .u32 0,.int .u32 0,.int .u32 0,.int .u32 0,.int .u32 0,.int .u32 0,.int .u32 0,.int .u32 0,.int .u32 0,.int .u32 0,.int .u32 0,.int .u32 0,.int .u32 0,.int .u32 0,.int .u32 0,.int .u32 0,.int .u32 0,.int .u32 0,.int .u32 0,.int .u32 0,.int .u32 0,.int .u32 0,.int .u32 0,.int .u32 0,.int .u32 0,.int .u32 0,.int .u32 0,.int .u32 0,.int .u32 0,.int .u32 0,.int .u32 0] 155)).heap.size=W.heap.size+3:=by simp only[World.size_alloc] <;> omega
 have fB:Below W.heap.size W (((W.alloc (.cells #[.func (.yield l) #[] #[]] 34)).alloc (.cells #[.int .i64 (n:Int)] 3)).alloc (.cells #[.int .u32 0,.int .u32 0,.int .u32 0,.int .u32 0,.int .u32 0,.int .u32 0,.int .u32 0,.int .u32 0,.int .u32 0,.int .u32 0,.int .u32 0,.int .u32 0,.int .u32 0,.int .u32 0,.int .u32 0,.int .u32 0,.int .u32 0,.int .u32 0,.int .u32 0,.int .u32 0,.int .u32 0,.int .u32 0,.int .u32 0,.int .u32 0,.int .u32 0,.int .u32 0,.int .u32 0,.int .u32 0,.int .u32 0,.int .u32 0,.int .u32 0,.int .u32 0] 155)):=(((Below.refl _ _).alloc (Nat.le_refl _) _).alloc (by simp only[World.size_alloc];omega) _).alloc (by simp only[World.size_alloc];omega) _
 have fq0:(((W.alloc (.cells #[.func (.yield l) #[] #[]] 34)).alloc (.cells #[.int .i64 (n:Int)] 3)).alloc (.cells #[.int .u32 0,.int .u32 0,.int .u32 0,.int .u32 0,.int .u32 0,.int .u32 0,.int .u32 0,.int .u32 0,.int .u32 0,.int .u32 0,.int .u32 0,.int .u32 0,.int .u32 0,.int .u32 0,.int .u32 0,.int .u32 0,.int .u32 0,.int .u32 0,.int .u32 0,.int .u32 0,.int .u32 0,.int .u32 0,.int .u32 0,.int .u32 0,.int .u32 0,.int .u32 0,.int .u32 0,.int .u32 0,.int .u32 0,.int .u32 0,.int .u32 0,.int .u32 0] 155)).heap[W.heap.size]?=some (.cells #[.func (.yield l) #[] #[]] 34 (0,0)):=by have h:=World.alloc_heap_new W (.cells #[.func (.yield l) #[] #[]] 34);exact (Below.heap_alloc _ _ _ (by simp only[World.size_alloc];omega)).trans ((Below.heap_alloc _ _ _ (by simp only[World.size_alloc];omega)).trans (h))
 have fq1:(((W.alloc (.cells #[.func (.yield l) #[] #[]] 34)).alloc (.cells #[.int .i64 (n:Int)] 3)).alloc (.cells #[.int .u32 0,.int .u32 0,.int .u32 0,.int .u32 0,.int .u32 0,.int .u32 0,.int .u32 0,.int .u32 0,.int .u32 0,.int .u32 0,.int .u32 0,.int .u32 0,.int .u32 0,.int .u32 0,.int .u32 0,.int .u32 0,.int .u32 0,.int .u32 0,.int .u32 0,.int .u32 0,.int .u32 0,.int .u32 0,.int .u32 0,.int .u32 0,.int .u32 0,.int .u32 0,.int .u32 0,.int .u32 0,.int .u32 0,.int .u32 0,.int .u32 0,.int .u32 0] 155)).heap[W.heap.size+1]?=some (.cells #[.int .i64 (n:Int)] 3 (0,0)):=by have h:=World.alloc_heap_new (W.alloc (.cells #[.func (.yield l) #[] #[]] 34)) (.cells #[.int .i64 (n:Int)] 3);simp only[World.size_alloc] at h;exact (Below.heap_alloc _ _ _ (by simp only[World.size_alloc];omega)).trans (h)
 have fq2:(((W.alloc (.cells #[.func (.yield l) #[] #[]] 34)).alloc (.cells #[.int .i64 (n:Int)] 3)).alloc (.cells #[.int .u32 0,.int .u32 0,.int .u32 0,.int .u32 0,.int .u32 0,.int .u32 0,.int .u32 0,.int .u32 0,.int .u32 0,.int .u32 0,.int .u32 0,.int .u32 0,.int .u32 0,.int .u32 0,.int .u32 0,.int .u32 0,.int .u32 0,.int .u32 0,.int .u32 0,.int .u32 0,.int .u32 0,.int .u32 0,.int .u32 0,.int .u32 0,.int .u32 0,.int .u32 0,.int .u32 0,.int .u32 0,.int .u32 0,.int .u32 0,.int .u32 0,.int .u32 0] 155)).heap[W.heap.size+1+1]?=some (.cells #[.int .u32 0,.int .u32 0,.int .u32 0,.int .u32 0,.int .u32 0,.int .u32 0,.int .u32 0,.int .u32 0,.int .u32 0,.int .u32 0,.int .u32 0,.int .u32 0,.int .u32 0,.int .u32 0,.int .u32 0,.int .u32 0,.int .u32 0,.int .u32 0,.int .u32 0,.int .u32 0,.int .u32 0,.int .u32 0,.int .u32 0,.int .u32 0,.int .u32 0,.int .u32 0,.int .u32 0,.int .u32 0,.int .u32 0,.int .u32 0,.int .u32 0,.int .u32 0] 155 (0,0)):=by have h:=World.alloc_heap_new ((W.alloc (.cells #[.func (.yield l) #[] #[]] 34)).alloc (.cells #[.int .i64 (n:Int)] 3)) (.cells #[.int .u32 0,.int .u32 0,.int .u32 0,.int .u32 0,.int .u32 0,.int .u32 0,.int .u32 0,.int .u32 0,.int .u32 0,.int .u32 0,.int .u32 0,.int .u32 0,.int .u32 0,.int .u32 0,.int .u32 0,.int .u32 0,.int .u32 0,.int .u32 0,.int .u32 0,.int .u32 0,.int .u32 0,.int .u32 0,.int .u32 0,.int .u32 0,.int .u32 0,.int .u32 0,.int .u32 0,.int .u32 0,.int .u32 0,.int .u32 0,.int .u32 0,.int .u32 0] 155);simp only[World.size_alloc] at h;exact h
 generalize (((W.alloc (.cells #[.func (.yield l) #[] #[]] 34)).alloc (.cells #[.int .i64 (n:Int)] 3)).alloc (.cells #[.int .u32 0,.int .u32 0,.int .u32 0,.int .u32 0,.int .u32 0,.int .u32 0,.int .u32 0,.int .u32 0,.int .u32 0,.int .u32 0,.int .u32 0,.int .u32 0,.int .u32 0,.int .u32 0,.int .u32 0,.int .u32 0,.int .u32 0,.int .u32 0,.int .u32 0,.int .u32 0,.int .u32 0,.int .u32 0,.int .u32 0,.int .u32 0,.int .u32 0,.int .u32 0,.int .u32 0,.int .u32 0,.int .u32 0,.int .u32 0,.int .u32 0,.int .u32 0] 155))=W1 at fsz fB fq0 fq1 fq2 ⊢
 have HTK0:=Lib.hid (tk_zero fq2)
 have FB:=Lib.hid fB
 have F0:=Lib.hid fq0
 have F1:=Lib.hid fq1
 have HSZ:=Lib.hid fsz
 have hlt1:W.heap.size+2<W1.heap.size:=by omega
 obtain ⟨x0,x1,x2,xl⟩:=c3_of (keepq fB QP.out)
 clear fq0 fq1 fq2 fsz fB
 obtain ⟨bt,hbt⟩:∃bt,bt=W.heap.size+1+1:=⟨_,rfl⟩
 rw[← hbt] at HTK0 ⊢
 have HBT:=Lib.hid hbt
 clear hbt
 go_wp2_with fail
 clear x0 x1 x2 xl
 go_loopw [7,8,16] (fun _ _ s wr=>∃k:Nat,k≤m∧s = .int .i64 k∧Hid (TkW wr bt (rowM n ps k) (colM n ps k))∧Hid (Below bt W1 wr)) (fun _ _ s _=>m - (intOf s).toNat)
 case atStart=>exact ⟨0,by omega,rfl,HTK0.out,Below.refl _ _⟩
 case round =>
  obtain ⟨k,hk,rfl,htk,hbr⟩:=hrel
  have hWbt:W.heap.size≤bt:=by have:=HBT.out;omega
  have hbW:Hid (Below W.heap.size W wr):=(FB.out).trans (hbr.out.mono hWbt)
  by_cases hlt:k<m
  ·obtain ⟨b,off,rfl,hb,hc⟩:=(HIC.out.keep hbW.out.size (fun k e=>hbW.out.block k (HOL.out k e))).here.2 k hlt
   obtain ⟨x0,x1,x2,xl⟩:=c3_of (keepq hbW.out QP.out)
   have hki:(k:Int)<(m:Int):=by omega
   have hge:=HP.out.ge k
   have hlx:=HP.out.lt k
   obtain ⟨x,hx⟩:∃x,x=ps[k]?.getD 0:=⟨_,rfl⟩
   rw[← hx] at hc hge hlx
   by_cases hneg:x<0
   ·have hx1:x = -1:=by omega
    subst hx1
    have hneg':ps[k]?.getD 0<0:=by rw[← hx];decide
    have hsk:Hid (TkW wr bt (rowM n ps (k+1)) (colM n ps (k+1))):=htk.out.same (fun i _=>(rowM_skip hneg' i).symm) (fun i _=>(colM_skip hneg' i).symm)
    clear hneg' hx
    go_wp2_with fail
    go_roundw
    case rel=>exact ⟨k+1,by omega,by go_num,hsk.out,hbr.out⟩
    case measure=>simp[intOf];omega
   ·have hx0:0≤x:=by omega
    have hne:(x != -1)=true:=by rw[bne_iff_ne];omega
    have hkn:k<n*n:=by rw[← HM.out];exact hlt
    have hi16:k / n<16:=Nat.lt_of_lt_of_le (Nat.div_lt_of_lt_mul hkn) hn2
    have hj16:k % n<16:=Nat.lt_of_lt_of_le (Nat.mod_lt _ hn1) hn2
    have hR:rowM n ps k (k / n)<4294967296:=mask32 hn2 HP.out.lt
    have hK:colM n ps k (k % n)<4294967296:=mask32 hn2 HP.out.lt
    have hno:((rowM n ps k (k / n)).testBit x.toNat||(colM n ps k (k % n)).testBit x.toNat)=false:=by
     rw[Bool.eq_false_iff]
     intro e
     rw[Bool.or_eq_true,hx] at e
     have h1:=twice_at (C:=n) (cs:=ps) (k:=k) (by rw[HP.out.len];exact hkn) (by rw[← hx];exact hx0) e
     rw[HP.out.once] at h1
     cases h1
    have HPT:Hid (∀W',TkW W' bt (rowM n ps k) (colM n ps k)→Calls Tryz.prog 155 #[.pointer (some ⟨bt,0,none⟩),.int .i64 (wrap64 ((k:Int) / (n:Int))),.int .i64 ((k:Int) % (n:Int)),.int .i64 x] W' fun e w'=>e = .returned (.bool true)∧TkW w' bt (rowM n ps (k+1)) (colM n ps (k+1))∧Below bt W' w'):=fun W' ht=>by
     rw[divw (by omega),modw]
     refine (put_yes bt _ _ _ _ _ W' hi16 hj16 hx0 (by omega) hR hK ht.lt (ht.row _ hi16).1 (ht.col _ hj16).1 (ht.row _ hi16).2 (ht.col _ hj16).2 hno).mono ?_
     rintro _ w2 ⟨rfl,rfl⟩
     refine ⟨rfl,(ht.put hi16 hj16).same (fun i _=>?_) (fun i _=>?_),Below.drew (Below.setCell (Below.setCell (Below.refl bt W') (p:=⟨bt,k / n,none⟩) (Nat.le_refl bt) _) (p:=⟨bt,16+k % n,none⟩) (Nat.le_refl bt) _)⟩
     ·rw[rowM_succ (by rw[← hx];exact hx0),← hx]
      by_cases e:i=k / n
      ·subst e;rw[if_pos rfl]
      ·rw[if_neg e,if_neg (fun h=>e h.symm)]
     ·rw[colM_succ (by rw[← hx];exact hx0),← hx]
      by_cases e:i=k % n
      ·subst e;rw[if_pos rfl]
      ·rw[if_neg e,if_neg (fun h=>e h.symm)]
    have hnI:(n:Int)≠0:=by omega
    have hqN:wr.heap[W.heap.size+1]?=some (.cells #[.int .i64 (n:Int)] 3 (0,0)):=(hbr.out.block _ (by have:=HBT.out;omega)).trans F1.out
    obtain ⟨n0,nf,nl⟩:=c1_of hqN
    clear hi16 hj16 hR hK hno hx hqN hkn
    go_wp2_with fail
    refine wp_region_T (fun w'=>∃u,w'=over (wr) u) [0,3,6] [7] [(0,1),(0,2),(0,4),(0,5),(2,7)] (by kernel_rfl) (by kernel_rfl) (by exact ⟨_,below_over (by repeat (first|assumption|exact Below.refl _ _|refine keep_drew ?_|refine keep_alloc ?_ _|refine keep_trans ?_ (by assumption)))⟩) ?_
    dsimp only[pickF,nthOp]
    repeat (first|(refine wpF_skip rfl (fun K hK=>?_);go_big_quiet_op;refine hK _ ?_;clear hK K)|(refine wpF_quiet rfl rfl (fun K hK=>?_);go_big_quiet_op;refine hK _ ?_;clear hK K))
    refine wpF_end ?_
    dsimp only[pickOps,nthOp]
    repeat (first|(refine wpS_skip rfl (fun K hK=>?_);go_big_quiet_op;refine hK _ ?_;clear hK K)|(refine wpS_quiet rfl rfl (fun K hK=>?_);go_big_quiet_op;refine hK _ ?_;clear hK K))
    refine wpS_late _ _ _ rfl ?_
    dsimp only[List.map]
    go_wp2_with ((go_at_call 155;refine (HPT.out _ (htk.out.mono ((Below.refl _ _).drew) htk.out.lt)).mono ?_;rintro _ w2 ⟨rfl,htk2,hb2⟩))
    refine NoPanic.normal ?_
    go_wp2_with fail
    go_roundw
    case rel=>exact ⟨k+1,by omega,by go_num,htk2,hbr.out.trans (((Below.refl _ _).drew).trans hb2)⟩
    case measure=>simp[intOf];omega
  ·have e:k=m:=by omega
   subst e
   have hicw:=(HIC.out.keep hbW.out.size (fun k e=>hbW.out.block k (HOL.out k e))).here
   have hk1:0<k:=by rw[HM.out];exact Nat.mul_pos hn1 hn1
   have hpl:ps.length=k:=by rw[HP.out.len,HM.out]
   have HCL:=Lib.hid ((clone_c a k c ps wr hicw).mono (fun e w' hh=>show ∃g cap,e = .returned (.slice (some ⟨g,0,none⟩) k cap)∧w'.ownsRow wr.heap.size 3 1 (.slice (some ⟨g,0,none⟩) k cap) k (ps.map (Value.int .i64))∧Below wr.heap.size wr w' from by
    obtain ⟨v,he,hown,hb⟩:=hh
    rw[hpl] at hown
    obtain ⟨g,cap,y9,rfl,_⟩:=owns_free hown 0 hk1
    exact ⟨g,cap,he,hown,hb⟩))
   obtain ⟨x0,x1,x2,xl⟩:=c3_of (keepq hbW.out QP.out)
   clear hicw
   go_upto_region 12 with (first|(go_at_call 141;refine HCL.out.mono ?_;rintro _ w4 ⟨g,cap,rfl,hown4,hb4⟩))
   clear x0 x1 x2 xl
   have hsz:((w4.alloc (.cells #[.slice (some ⟨g,0,none⟩) k cap] 22)).alloc (.cells #[.func (.func 156) #[] #[.pointer (some ⟨w4.heap.size,0,none⟩),.pointer (some ⟨W.heap.size,0,none⟩),.pointer (some ⟨W.heap.size+1,0,none⟩),.pointer (some ⟨bP,0,none⟩),.pointer (some ⟨w4.heap.size+1,0,none⟩),.pointer (some ⟨bt,0,none⟩),.pointer (some ⟨bFr,0,none⟩),.pointer (some ⟨bNo,0,none⟩)]] 72)).heap.size=w4.heap.size+2:=by simp only[World.size_alloc] <;> omega
   have hB:Below w4.heap.size w4 ((w4.alloc (.cells #[.slice (some ⟨g,0,none⟩) k cap] 22)).alloc (.cells #[.func (.func 156) #[] #[.pointer (some ⟨w4.heap.size,0,none⟩),.pointer (some ⟨W.heap.size,0,none⟩),.pointer (some ⟨W.heap.size+1,0,none⟩),.pointer (some ⟨bP,0,none⟩),.pointer (some ⟨w4.heap.size+1,0,none⟩),.pointer (some ⟨bt,0,none⟩),.pointer (some ⟨bFr,0,none⟩),.pointer (some ⟨bNo,0,none⟩)]] 72)):=((Below.refl _ _).alloc (Nat.le_refl _) _).alloc (by simp only[World.size_alloc];omega) _
   have hq0:((w4.alloc (.cells #[.slice (some ⟨g,0,none⟩) k cap] 22)).alloc (.cells #[.func (.func 156) #[] #[.pointer (some ⟨w4.heap.size,0,none⟩),.pointer (some ⟨W.heap.size,0,none⟩),.pointer (some ⟨W.heap.size+1,0,none⟩),.pointer (some ⟨bP,0,none⟩),.pointer (some ⟨w4.heap.size+1,0,none⟩),.pointer (some ⟨bt,0,none⟩),.pointer (some ⟨bFr,0,none⟩),.pointer (some ⟨bNo,0,none⟩)]] 72)).heap[w4.heap.size]?=some (.cells #[.slice (some ⟨g,0,none⟩) k cap] 22 (0,0)):=by have h:=World.alloc_heap_new w4 (.cells #[.slice (some ⟨g,0,none⟩) k cap] 22);exact (Below.heap_alloc _ _ _ (by simp only[World.size_alloc];omega)).trans (h)
   have hq1:((w4.alloc (.cells #[.slice (some ⟨g,0,none⟩) k cap] 22)).alloc (.cells #[.func (.func 156) #[] #[.pointer (some ⟨w4.heap.size,0,none⟩),.pointer (some ⟨W.heap.size,0,none⟩),.pointer (some ⟨W.heap.size+1,0,none⟩),.pointer (some ⟨bP,0,none⟩),.pointer (some ⟨w4.heap.size+1,0,none⟩),.pointer (some ⟨bt,0,none⟩),.pointer (some ⟨bFr,0,none⟩),.pointer (some ⟨bNo,0,none⟩)]] 72)).heap[w4.heap.size+1]?=some (.cells #[.func (.func 156) #[] #[.pointer (some ⟨w4.heap.size,0,none⟩),.pointer (some ⟨W.heap.size,0,none⟩),.pointer (some ⟨W.heap.size+1,0,none⟩),.pointer (some ⟨bP,0,none⟩),.pointer (some ⟨w4.heap.size+1,0,none⟩),.pointer (some ⟨bt,0,none⟩),.pointer (some ⟨bFr,0,none⟩),.pointer (some ⟨bNo,0,none⟩)]] 72 (0,0)):=by have h:=World.alloc_heap_new (w4.alloc (.cells #[.slice (some ⟨g,0,none⟩) k cap] 22)) (.cells #[.func (.func 156) #[] #[.pointer (some ⟨w4.heap.size,0,none⟩),.pointer (some ⟨W.heap.size,0,none⟩),.pointer (some ⟨W.heap.size+1,0,none⟩),.pointer (some ⟨bP,0,none⟩),.pointer (some ⟨w4.heap.size+1,0,none⟩),.pointer (some ⟨bt,0,none⟩),.pointer (some ⟨bFr,0,none⟩),.pointer (some ⟨bNo,0,none⟩)]] 72);simp only[World.size_alloc] at h;exact h
   generalize ((w4.alloc (.cells #[.slice (some ⟨g,0,none⟩) k cap] 22)).alloc (.cells #[.func (.func 156) #[] #[.pointer (some ⟨w4.heap.size,0,none⟩),.pointer (some ⟨W.heap.size,0,none⟩),.pointer (some ⟨W.heap.size+1,0,none⟩),.pointer (some ⟨bP,0,none⟩),.pointer (some ⟨w4.heap.size+1,0,none⟩),.pointer (some ⟨bt,0,none⟩),.pointer (some ⟨bFr,0,none⟩),.pointer (some ⟨bNo,0,none⟩)]] 72))=W5 at hsz hB hq0 hq1 ⊢
   have hs4:=hb4.size
   have hsr:=hbr.out.size
   have hgl:=hown4.lt g rfl
   have hbtE:=HBT.out
   have hB15:Below bt W1 W5:=hbr.out.trans ((keep_trans hb4 hB).mono (by have:=htk.out.lt;omega))
   have hBW5:Below W.heap.size W W5:=FB.out.trans (hB15.mono (by omega))
   obtain ⟨c0,hc0⟩:∃c0:CC,c0={ bP:=bP,bFr:=bFr,bNo:=bNo,bY:=W.heap.size,bN:=W.heap.size+1,bT:=bt,bC:=w4.heap.size,bFi:=w4.heap.size+1,g:=g,cap:=cap,n:=n,m:=k,aP:=a,cP:=c,ps:=ps,l:=l,fk:=fk,fcaps:=fcaps,nk:=nk,ncaps:=ncaps,Im:=Old,MN:=MN,M:=fun j=>MN j∨(W.heap.size≤j∧j<W5.heap.size),ok:=ok,Nt:=Nt,L0:=compP n ok k 0 ps }:=⟨_,rfl⟩
   have hKb:∀j,c0.K j→(Old j∨j=bP∨j=bFr∨j=bNo)∨(W.heap.size≤j∧j<W5.heap.size∧j≠g∧j≠bt):=by
    intro j hj
    subst hc0
    rcases hj with e|e|e|e|e|e|e|e
    ·exact .inl (.inl e)
    ·exact .inl (.inr (.inl e))
    ·exact .inl (.inr (.inr (.inl e)))
    ·exact .inl (.inr (.inr (.inr e)))
    ·right;simp only at e;omega
    ·right;simp only at e;omega
    ·right;simp only at e;omega
    ·right;simp only at e;omega
   have hOldlt:∀j,(Old j∨j=bP∨j=bFr∨j=bNo)→j<W.heap.size:=by
    rintro j (e|e|e|e)
    ·exact HOL.out j e
    ·rw[e];exact q_lt QP.out
    ·rw[e];exact q_lt QFr.out
    ·rw[e];exact q_lt QNo.out
   have hside:CSide c0:=by
    have hgp:∀cs kk,Gc c0 cs kk→Gp n ps cs kk:=fun cs kk G=>by
     subst hc0
     exact ⟨G.len.trans HM.out,fun j h1 h2=>G.lo j h1 (by rw[← HM.out] at h2;exact h2),G.lt,G.hi⟩
    have hSm:=HM.out
    subst hc0
    exact { keep:=fun cs A B h1 h2 h3=>HS.out.keep cs A B h1 h2 (fun j e=>h3 j (e.imp .inl id)),free:=fun cs kk x A h1 h2 h3 h4 h5=>HS.out.free cs kk x A h1 (fun j e=>h2 j (.inl e)) (hgp _ _ h3) (by rw[← hSm];exact h4) h5,noteT:=fun cs kk x A h1 h2 h3 h4 h5 h6 h7=>HS.out.noteT cs kk x A h1 (fun j e=>h2 j (.inl e)) (hgp _ _ h3) (by rw[← hSm];exact h4) h5 h6 h7,noteF:=fun cs kk x A h1 h2 h3 h4 h5 h6 h7=>HS.out.noteF cs kk x A h1 (fun j e=>h2 j (.inl e)) (hgp _ _ h3) (by rw[← hSm];exact h4) h5 h6 h7,frun:=HS.out.frun,nrun:=HS.out.nrun }
   have hx:CFix c0:=by
    have hkk:=hKb
    have hsd:=hside
    subst hc0
    refine { n1:=hn1,n2:=hn2,mm:=HM,m1:=hk1,m2:=hmb,neg:=fun j hj=>?_,apart:=fun j hj=>?_,mg:=?_,mt:=?_,mn:=fun j e => .inl e,gt:=?_,gn:=?_,tn:=?_,side:=hsd }
    ·have:=HP.out.ge j
     show ps[j]?.getD 0 = -1
     have h9:ps[j]?.getD 0<0:=hj
     omega
    ·rcases hkk j hj with e|e
     ·have h1:=hOldlt j e
      refine ⟨by show j≠g;omega,by show j≠bt;omega,fun e2=>?_⟩
      have h2:=HAP.out j e2
      rcases e with e|e|e|e
      ·exact h2.1 e
      ·exact h2.2.1 e
      ·exact h2.2.2.1 e
      ·exact h2.2.2.2 e
     ·exact ⟨e.2.2.1,e.2.2.2,fun e2=>by have:=HMN.out j e2;omega⟩
    ·exact .inr ⟨by show W.heap.size≤g;omega,by show g<W5.heap.size;omega⟩
    ·exact .inr ⟨by show W.heap.size≤bt;omega,by show bt<W5.heap.size;omega⟩
    ·show g≠bt;omega
    ·intro e;have:=HMN.out g e;omega
    ·intro e;have:=HMN.out bt e;omega
   have hCS:CS c0 W5 ps ps 0:=by
    have hkk:=hKb
    have hF1:W5.heap[W.heap.size]?=some (.cells #[.func (.yield l) #[] #[]] 34 (0,0)):=(hB15.block _ (by omega)).trans F0.out
    have hF2:W5.heap[W.heap.size+1]?=some (.cells #[.int .i64 (n:Int)] 3 (0,0)):=(hB15.block _ (by omega)).trans F1.out
    have hbtk:TkW W5 bt (rowM n ps k) (colM n ps k):=htk.out.mono (keep_trans hb4 hB) htk.out.lt
    have hf5:=owns_keep (w':=W5) (owns_base hown4 (Nat.zero_le _)) (fun j _ hl=>hB.block j hl)
    subst hc0
    refine { cb:={ kLt:=fun j hj=>?_,qP:=keepq hBW5 QP.out,qFr:=keepq hBW5 QFr.out,qNo:=keepq hBW5 QNo.out,qY:=hF1,qN:=hF2,qC:=hq0,qFi:=hq1,icp:=HIC.out.keep hBW5.size (fun j e=>hBW5.block j (HOL.out j e)),mnLt:=fun j e=>Nat.lt_of_lt_of_le (HMN.out j e) hBW5.size },tk:=hbtk,f:=hf5,nt:=HS.out.keep _ _ _ HNT.out hBW5.size (fun j e=>hBW5.block j (e.elim (HOL.out j) (HMN.out j))),gc:={ len:=hpl,lo:=fun j hj=>absurd hj (by omega),lt:=HP.out.lt,hi:=fun j _=>rfl,giv:=fun j _=>rfl },agree:=fun j _=>rfl }
    rcases hkk j hj with e|e
    ·exact Nat.lt_of_lt_of_le (hOldlt j e) hBW5.size
    ·exact e.2.1
   have hJ5:J [] c0.M W5:=by
    subst hc0
    exact HJ.out [] MN _ W W5 H0.out (Below.stays hBW5 _) (fun j e=>e.imp id (fun e=>e.1))
   have hMlt:∀j,c0.M j→j<W5.heap.size:=by
    subst hc0
    rintro j (e|e)
    ·exact Nat.lt_of_lt_of_le (HMN.out j e) hBW5.size
    ·exact e.2
   have hYY:∀pre x M A B,J pre M A→Below A.heap.size A B→NewC x A→GivenC c0 x M B→(pre++[x]).map Prod.snd <+: c0.L0→YieldAt Fence.wide 0 Tryz.prog c0.l (encC c0 x) B fun e W' =>
     (e = .returned (.bool true)∧J (pre++[x]) M W'∧KpC c0 M B W')∨(e = .returned (.bool false)∧Jx (pre++[x]) M W'∧KpC c0 M B W'):=by
    intro pre x M A B hj hb hnw hg hpre
    have hcv:∀D,KpG (fun j=>Old j∨j=bP∨j=bFr∨j=bNo) M B D→KpC c0 M B D:=fun D hD=>⟨hD.1,fun j hl e=>hD.2 j hl (by
     rcases e with e|e
     ·rcases hKb j e with e2|e2
      ·exact .inl e2
      ·refine .inr (hg.2.2.2.2 j ?_)
       subst hc0
       exact .inr ⟨e2.1,e2.2.1⟩
     ·exact .inr e)⟩
    have hgg:GivenG k (fun j=>Old j∨j=bP∨j=bFr∨j=bNo) x M B:=by
     refine ⟨hg.1,fun j e=>⟨fun e2=>(hg.2.1 j e).1 ?_,(hg.2.1 j e).2⟩,hg.2.2.1,?_⟩
     ·subst hc0
      rcases e2 with e2|e2|e2|e2
      ·exact .inl e2
      ·exact .inr (.inl e2)
      ·exact .inr (.inr (.inl e2))
      ·exact .inr (.inr (.inr (.inl e2)))
     ·have:=hg.2.2.2.1
      subst hc0
      exact this
    have h1:=HY.out pre x M A B hj hb hnw hgg (by subst hc0;exact hpre)
    have e1:encC c0 x=encG n x:=by subst hc0;rfl
    have e2:c0.l=l:=by subst hc0;rfl
    rw[e1,e2]
    refine YieldAt.mono h1 ?_
    rintro e D (⟨he,hj2,hk2⟩|⟨he,hj2,hk2⟩)
    ·exact .inl ⟨he,hj2,hcv D hk2⟩
    ·exact .inr ⟨he,hj2,hcv D hk2⟩
   have HFL:=Lib.hid (fill_c c0 hx J Jx HJ.out HJX.out hYY k 0 W5 ps ps c0.M [] (by rw[hc0];simp) hCS (fun j e=>e) hMlt (by rw[hc0];exact List.prefix_refl _) hJ5)
   have HC:Hid (Calls Tryz.prog 156 (#[.int .i64 0]++#[.pointer (some ⟨w4.heap.size,0,none⟩),.pointer (some ⟨W.heap.size,0,none⟩),.pointer (some ⟨W.heap.size+1,0,none⟩),.pointer (some ⟨bP,0,none⟩),.pointer (some ⟨w4.heap.size+1,0,none⟩),.pointer (some ⟨bt,0,none⟩),.pointer (some ⟨bFr,0,none⟩),.pointer (some ⟨bNo,0,none⟩)]) W5 (fun e W'=>(∃v,e = .returned v)∧((∃xs M,xs.map Prod.snd=compP n ok k 0 ps∧J xs M W')∨(∃pre M,(pre.map Prod.snd <+: compP n ok k 0 ps∧pre≠[])∧Jx pre M W')))):=by
    have h:=HFL.out
    have hcap:#[Value.int .i64 ((0:Nat):Int)]++c0.caps=#[.int .i64 0]++#[.pointer (some ⟨w4.heap.size,0,none⟩),.pointer (some ⟨W.heap.size,0,none⟩),.pointer (some ⟨W.heap.size+1,0,none⟩),.pointer (some ⟨bP,0,none⟩),.pointer (some ⟨w4.heap.size+1,0,none⟩),.pointer (some ⟨bt,0,none⟩),.pointer (some ⟨bFr,0,none⟩),.pointer (some ⟨bNo,0,none⟩)]:=by rw[hc0];rfl
    rw[hcap] at h
    have hL:compP c0.n c0.ok k 0 ps=compP n ok k 0 ps:=by rw[hc0]
    rw[hL] at h
    refine h.mono ?_
    rintro e D ⟨_,_,(⟨he,xs,h1,h2⟩|⟨he,ys,h1,h2,h3⟩)⟩
    ·exact ⟨⟨_,he⟩,.inl ⟨xs,_,h1,h2⟩⟩
    ·exact ⟨⟨_,he⟩,.inr ⟨ys,_,⟨h1,h2⟩,h3⟩⟩
   simp only[List.append_toArray,List.cons_append,List.nil_append] at HC
   have cFi:=q_cell hq1 0
   have lFi:=q_lt hq1
   clear HFL hYY hMlt hJ5 hCS hx hside hKb hc0 hB15 hBW5 hOldlt hgl hs4 hsr hown4 hb4 hB hsz hq0 hbtE
   go_wp2_with fail
   refine HC.out.mono ?_
   rintro _ W6 ⟨⟨v6,rfl⟩,hr6⟩
   have HR6:=Lib.hid hr6
   clear hr6
   go_wp2_with fail
   go_end0
   exact ⟨⟨_,rfl⟩,HR6.out⟩
def SeqP {α:Type} (P:Program) (g:Nat) (lb:Array Value) (encs:α→Array Value) (New:α→World→Prop) (Given:α→(Nat→Prop)→World→Prop) (Kp:(Nat→Prop)→World→World→Prop) (S Sp Pre:List α→Prop) (M0:Nat→Prop) (w0:World):Prop :=
 ∀(l:Nat) (J Jx:List α→(Nat→Prop)→World→Prop) (W:World),Below w0.heap.size w0 W→StableM J→StableM Jx →
  (∀pre x M W0 W1,J pre M W0→Below W0.heap.size W0 W1→New x W0→Given x M W1→Pre (pre++[x])→YieldAt Fence.wide 0 P l (encs x) W1 fun e W' =>
   (e = .returned (.bool true)∧J (pre++[x]) M W'∧Kp M W1 W')∨(e = .returned (.bool false)∧Jx (pre++[x]) M W'∧Kp M W1 W')) →
  J [] M0 W →
  Calls P g (#[.func (.yield l) #[] #[]]++lb) W fun e W'=>(∃v,e = .returned v)∧((∃xs M,S xs∧J xs M W')∨(∃pre M,Sp pre∧Jx pre M W'))
theorem comp_seq (bP bFr bNo:Nat) (n:Nat) (a:Option Addr) (m c:Nat) (ps:List Int) (fk:Nat) (fcaps:Array Value) (nk:Nat) (ncaps:Array Value) (W:World) (Old MN:Nat→Prop) (ok:Nat→Int→List Int→Bool) (Nt:List Int→World→Prop)
  (S:SideP n ps fk fcaps nk ncaps Old MN ok Nt) (hp:Part n ps) (hm:m=n*n)
  (hqP:W.heap[bP]?=some (.cells #[.int .i64 (n:Int),.int .i64 (n:Int),.slice a m c] 24 (0,0)))
  (hqFr:W.heap[bFr]?=some (.cells #[.func (.func fk) #[] fcaps] 111 (0,0)))
  (hqNo:W.heap[bNo]?=some (.cells #[.func (.func nk) #[] ncaps] 112 (0,0)))
  (hic:Sure Old W (fun w=>IC w a m ps)) (hOl:∀k,Old k→k<W.heap.size) (hMN:∀k,MN k→k<W.heap.size) (hap:∀k,MN k→¬Old k∧k≠bP∧k≠bFr∧k≠bNo) (hNt:Nt ps W) :
  SeqP Tryz.prog 154 #[.pointer (some ⟨bP,0,none⟩),.pointer (some ⟨bFr,0,none⟩),.pointer (some ⟨bNo,0,none⟩)] (encG n) NewC (GivenG m (fun k=>Old k∨k=bP∨k=bFr∨k=bNo)) (KpG (fun k=>Old k∨k=bP∨k=bFr∨k=bNo)) (fun xs=>xs.map Prod.snd=compP n ok m 0 ps) (fun pre=>pre.map Prod.snd <+: compP n ok m 0 ps∧pre≠[]) (fun pre=>pre.map Prod.snd <+: compP n ok m 0 ps) MN W :=
 fun l J Jx W1 hb hJ hJx hY h0=>comp1_c bP bFr bNo n a m c ps fk fcaps nk ncaps W1 Old MN ok Nt S hp hm (keepq hb hqP) (keepq hb hqFr) (keepq hb hqNo) (hic.keep hb.size (fun k e=>hb.block k (hOl k e))) (fun k e=>Nat.lt_of_lt_of_le (hOl k e) hb.size) (fun k e=>Nat.lt_of_lt_of_le (hMN k e) hb.size) hap (S.keep _ _ _ hNt hb.size (fun k e=>hb.block k (e.elim (hOl k) (hMN k)))) l J Jx hJ hJx hY h0
end
section
open Go Go.RowKit
attribute [local go_sem] over_cell
attribute [local go_sem] Oper.semAt_some
theorem always_c (k x:Int) (w:World):Calls Tryz.prog 105 #[.int .i64 k,.int .i64 x] w fun e w'=>e = .returned (.bool true)∧Below w.heap.size w w':=by
 go_enter Tryz.func105,Tryz.ntmps105
 go_wp2
 go_ret
 exact ⟨rfl,Below.refl _ _⟩
theorem ignore_c (k x:Int) (b:Bool) (w:World):Calls Tryz.prog 106 #[.int .i64 k,.int .i64 x,.bool b] w fun e w'=>e = .returned (.tuple #[])∧w=w':=by
 go_enter Tryz.func106,Tryz.ntmps106
 go_wp2
 go_end0
 exact ⟨rfl,rfl⟩
def okT:Nat→Int→List Int→Bool:=fun _ _ _=>true
theorem sideT (n:Nat) (ps:List Int) (Old:Nat→Prop):SideP n ps 105 #[] 106 #[] Old (fun _=>False) okT (fun _ _=>True) where
 keep:=fun _ _ _ _ _ _=>trivial
 free:=fun _ k x W _ _ _ _ _=>always_c (k:Int) (x:Int) W
 noteT:=fun _ k x W _ _ _ _ _ _ _=>(ignore_c (k:Int) (x:Int) true W).mono (fun _ _ h=>⟨h.1,trivial,by rw[← h.2];exact Stays.refl _ _⟩)
 noteF:=fun _ k x W _ _ _ _ _ _ _=>(ignore_c (k:Int) (x:Int) false W).mono (fun _ _ h=>⟨h.1,trivial,by rw[← h.2];exact Stays.refl _ _⟩)
 frun:=by intro args w;kernel_rfl
 nrun:=by intro args w;kernel_rfl
theorem ic_sure {w:World} {a:Option Addr} {m:Nat} {ps:List Int} (h:IC w a m ps):Sure (fun k=>k<w.heap.size) w (fun w'=>IC w' a m ps):=fun w' hs hk =>
 ⟨h.1,fun j hj=>by
  obtain ⟨b,off,e,hb,hc⟩:=h.2 j hj
  exact ⟨b,off,e,Nat.lt_of_lt_of_le hb hs,(World.cell?_of_block (hk b hb)).trans hc⟩⟩
theorem infoGrid:(Tryz.prog.info? 24).map (fun i=>(i.zero,i.size,i.bytes))=some (some (.agg #[.int .i64 0,.int .i64 0,.slice none 0 0]),3,40):=by kernel_rfl
theorem cell_new3 (w:World) (x0 x1 x2:Value) (T:TypeId):∀j u,[x0,x1,x2][j]?=some u→(w.alloc (.cells #[x0,x1,x2] T)).cell? ((⟨w.heap.size,0,none⟩:Addr).add j)=some u:=by
 intro j u hu
 have hq:=World.alloc_heap_new w (.cells #[x0,x1,x2] T)
 match j,hu with
 | 0,hu=>cases hu;exact q_cell hq 0
 | 1,hu=>cases hu;exact q_cell hq 1
 | 2,hu=>cases hu;exact q_cell hq 2
def gcells (n:Nat) (pre:List (Value × List Int)):List Value:=pre.flatMap fun x=>[.int .i64 (n:Int),.int .i64 (n:Int),x.1]
theorem gcells_snoc (n:Nat) (pre:List (Value × List Int)) (x:Value × List Int):gcells n (pre++[x])=gcells n pre++[.int .i64 (n:Int),.int .i64 (n:Int),x.1]:=by simp[gcells]
theorem gcells_at (n:Nat) (pre:List (Value × List Int)) (k:Nat) (hk:k<pre.length):(gcells n pre)[3*k]?=some (.int .i64 (n:Int))∧(gcells n pre)[3*k+1]?=some (.int .i64 (n:Int))∧(gcells n pre)[3*k+2]?=some (pre[k]).1:=by
 induction pre generalizing k with
 | nil=>simp at hk
 | cons x pre ih =>
  show (([Value.int .i64 (n:Int),.int .i64 (n:Int),x.1]++gcells n pre))[3*k]?=_∧(([Value.int .i64 (n:Int),.int .i64 (n:Int),x.1]++gcells n pre))[3*k+1]?=_∧(([Value.int .i64 (n:Int),.int .i64 (n:Int),x.1]++gcells n pre))[3*k+2]?=_
  cases k with
  | zero=>exact ⟨rfl,rfl,rfl⟩
  | succ k =>
   have:=ih k (by simpa using hk)
   rw[List.getElem?_append_right (by simp;omega),List.getElem?_append_right (by simp;omega),List.getElem?_append_right (by simp;omega)]
   simp only[List.length_cons,List.length_nil]
   rw[show 3*(k+1) - (0+1+1+1)=3*k by omega,show 3*(k+1)+1 - (0+1+1+1)=3*k+1 by omega,show 3*(k+1)+2 - (0+1+1+1)=3*k+2 by omega]
   exact this
def GridsI (n:Nat) (W:World) (M:Nat→Prop) (L:Nat) (v:Value) (pre:List (Value × List Int)):Prop :=
 W.ownsRow L 24 3 v pre.length (gcells n pre)∧(∀k,v.ownBlock=some k→¬M k) ∧
  ∀x,x∈pre→W.ownsRow 0 3 1 x.1 x.2.length (x.2.map (Value.int .i64))∧∀k,x.1.ownBlock=some k→(L≤k∧¬M k)∧v.ownBlock≠some k
theorem GridsI.nil (n:Nat) (W:World) (M:Nat→Prop) (L:Nat):GridsI n W M L (.slice none 0 0) [] :=
 ⟨World.ownsRow_nil W L _ 3,fun _ e=>(by cases e),fun _ e=>(by cases e)⟩
theorem GridsI.keep {n:Nat} {W W':World} {M M':Nat→Prop} {L L':Nat} {v:Value} {pre:List (Value × List Int)} (h:GridsI n W M L v pre) (hs:StaysL L' M W W') (hn:∀k,M' k→M k∨W.heap.size≤k):GridsI n W' M' L v pre :=
 ⟨hs.owns h.1 h.2.1,fun k e hm=>(hn k hm).elim (h.2.1 k e) (fun h2=>by have:=(h.1.lt k e).2;omega),
  fun x hx=>⟨hs.owns (h.2.2 x hx).1 (fun k e=>((h.2.2 x hx).2 k e).1.2),fun k e=>⟨⟨((h.2.2 x hx).2 k e).1.1,fun hm=>(hn k hm).elim ((h.2.2 x hx).2 k e).1.2 (fun h2=>by have:=((h.2.2 x hx).1.lt k e).2;omega)⟩,((h.2.2 x hx).2 k e).2⟩⟩⟩
theorem stable_grids (n:Nat) {L L':Nat} (v:Value):StableL L' (fun (pre:List (Value × List Int)) M W=>GridsI n W M L v pre) :=
 fun _ _ _ _ _ h hs hn=>h.keep hs hn
theorem GridsI.setCell {n:Nat} {W:World} {M:Nat→Prop} {L:Nat} {v:Value} {pre:List (Value × List Int)} (h:GridsI n W M L v pre) {b i:Nat} (hb:b<L) (u:Value):GridsI n (W.setCell ⟨b,i,none⟩ u) M L v pre :=
 ⟨ownsRow_setCell_other h.1 (a:=⟨b,i,none⟩) (fun e=>by have:=(h.1.lt b e).1;omega) u,h.2.1,
  fun x hx=>⟨ownsRow_setCell_other (h.2.2 x hx).1 (a:=⟨b,i,none⟩) (fun e=>by have:=((h.2.2 x hx).2 b e).1.1;omega) u,(h.2.2 x hx).2⟩⟩
theorem GridsI.base {n:Nat} {W:World} {M:Nat→Prop} {L L':Nat} {v:Value} {pre:List (Value × List Int)} (h:GridsI n W M L v pre) (hl:L'≤L):GridsI n W M L' v pre :=
 ⟨owns_base h.1 hl,h.2.1,fun x hx=>⟨(h.2.2 x hx).1,fun k e=>⟨⟨Nat.le_trans hl ((h.2.2 x hx).2 k e).1.1,((h.2.2 x hx).2 k e).1.2⟩,((h.2.2 x hx).2 k e).2⟩⟩⟩
theorem GridsI.below {n:Nat} {W W':World} {L:Nat} {v:Value} {pre:List (Value × List Int)} (h:GridsI n W noB L v pre) (hb:Below W.heap.size W W'):GridsI n W' noB L v pre :=
 ⟨owns_keep h.1 (fun k _ hl=>hb.block k hl),h.2.1,fun x hx=>⟨owns_keep (h.2.2 x hx).1 (fun k _ hl=>hb.block k hl),(h.2.2 x hx).2⟩⟩
theorem GridsI.append {n:Nat} {W W2:World} {M:Nat→Prop} {L:Nat} {v v':Value} {pre:List (Value × List Int)} {x:Value × List Int} (h:GridsI n W M L v pre) (hM:∀k,M k→k<W.heap.size)
  (hx:W.ownsRow 0 3 1 x.1 x.2.length (x.2.map (Value.int .i64))) (hxm:∀k,x.1.ownBlock=some k→(L≤k∧¬M k)∧v.ownBlock≠some k)
  (hs:Stays (fun k=>v.ownBlock=some k) W W2) (hown:W2.ownsRow L 24 3 v' (pre.length+1) (gcells n pre++[.int .i64 (n:Int),.int .i64 (n:Int),x.1])) (hnew:∀k,v'.ownBlock=some k→v.ownBlock=some k∨W.heap.size≤k):GridsI n W2 M L v' (pre++[x]):=by
 have hold:∀y,y∈pre++[x]→W.ownsRow 0 3 1 y.1 y.2.length (y.2.map (Value.int .i64))∧∀k,y.1.ownBlock=some k→(L≤k∧¬M k)∧v.ownBlock≠some k:=by
  intro y hy
  rcases List.mem_append.1 hy with hy|hy
  ·exact h.2.2 y hy
  ·rw[List.mem_singleton.1 hy];exact ⟨hx,hxm⟩
 refine ⟨by rw[List.length_append,gcells_snoc];exact hown,fun k e hm=>?_,fun y hy=>⟨owns_keep (hold y hy).1 (fun k e hlt=>hs.block k hlt ((hold y hy).2 k e).2),fun k e=>⟨((hold y hy).2 k e).1,fun e2=>?_⟩⟩⟩
 ·rcases hnew k e with e2|e2
  ·exact h.2.1 k e2 hm
  ·have:=hM _ hm;omega
 ·rcases hnew k e2 with e3|e3
  ·exact ((hold y hy).2 k e).2 e3
  ·have:=((hold y hy).1.lt _ e).2
   omega
def GL (W:World) (a:Option Addr) (cnt n:Nat) (css:List (List Int)):Prop :=
 (css.length=cnt∧cnt≤17592186044416)∧∀k,k<cnt→∃b off a' c',a=some ⟨b,off,none⟩∧b<W.heap.size∧W.cell? ⟨b,off+3*k,none⟩=some (.int .i64 (n:Int))∧W.cell? ⟨b,off+(3*k+1),none⟩=some (.int .i64 (n:Int)) ∧
  W.cell? ⟨b,off+(3*k+2),none⟩=some (.slice a' (css[k]?.getD []).length c')∧IC W a' (css[k]?.getD []).length (css[k]?.getD [])∧(css[k]?.getD []).length≤c'
theorem GL.below {W W':World} {a:Option Addr} {cnt n:Nat} {css:List (List Int)} (h:GL W a cnt n css) (hb:Below W.heap.size W W'):GL W' a cnt n css :=
 ⟨h.1,fun k hk=>by
  obtain ⟨b,off,a',c',h1,h2,h3,h4,h5,h6,h7⟩:=h.2 k hk
  exact ⟨b,off,a',c',h1,Nat.lt_of_lt_of_le h2 hb.size,(hb.cell h2).trans h3,(hb.cell h2).trans h4,(hb.cell h2).trans h5,h6.mono hb,h7⟩⟩
end
end Go.Proofs.YtmfpdakaeagdpaaGreat
