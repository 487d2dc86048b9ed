/- Texts J149 to J151 of this proof, in one file. -/
import Derived.Test.YtmfpdakaeagdpaaGreatW01
import Derived.Test.YtmfpdakaeagdpaaGreatW02
import Derived.Test.YtmfpdakaeagdpaaGreatW03
import Derived.Test.YtmfpdakaeagdpaaGreatW04
import Derived.Test.YtmfpdakaeagdpaaGreatW05
import Derived.Test.YtmfpdakaeagdpaaGreatW06
import Derived.Test.YtmfpdakaeagdpaaGreatW07
import Derived.Test.YtmfpdakaeagdpaaGreatW08
import Derived.Test.YtmfpdakaeagdpaaGreatW09
import Derived.Test.YtmfpdakaeagdpaaGreatW10
import Derived.Test.YtmfpdakaeagdpaaGreatW11
import Derived.Test.YtmfpdakaeagdpaaGreatW12
import Derived.Test.YtmfpdakaeagdpaaGreatW13
import Derived.Test.YtmfpdakaeagdpaaGreatW14
import Derived.Test.YtmfpdakaeagdpaaGreatW15
import Derived.Test.YtmfpdakaeagdpaaGreatW16
import Derived.Test.YtmfpdakaeagdpaaGreatW17
import Derived.Test.YtmfpdakaeagdpaaGreatW18
import Derived.Test.YtmfpdakaeagdpaaGreatW19
import Derived.Test.YtmfpdakaeagdpaaGreatW20
import Derived.Test.YtmfpdakaeagdpaaGreatW21
import Derived.Test.YtmfpdakaeagdpaaGreatW22
import Derived.Test.YtmfpdakaeagdpaaGreatW23
import Derived.Test.YtmfpdakaeagdpaaGreatW24
import Derived.Test.YtmfpdakaeagdpaaGreatW25
import Derived.Test.YtmfpdakaeagdpaaGreatW26
import Derived.Test.YtmfpdakaeagdpaaGreatW27
import Derived.Test.YtmfpdakaeagdpaaGreatX29n01
import Derived.Test.YtmfpdakaeagdpaaGreatX29n02
import Derived.Test.YtmfpdakaeagdpaaGreatX29n03
import Derived.Test.YtmfpdakaeagdpaaGreatX29n04
import Derived.Below
import Derived.BigFrame
import Derived.BigQuiet
import Derived.Deep.CutBlock
import Derived.Deep.CutRange
import Derived.Deep.LoopGhost
import Derived.Deep.Quiet
import Derived.Deep.RegionHeld3
import Derived.DeepKeys4
import Derived.KernelRfl
import Derived.Laws.BitsAllLaws
import Derived.Laws.EntriesVeiled
import Derived.Lib.AppendZeros
import Derived.Lib.Hide
import Derived.Lib.SlKeysI
import Derived.Lib.SliceRun
import Derived.LoopIn
import Derived.LoopNIn
import Derived.Maps.AppendAt
import Derived.Maps.OwnIn
import Derived.Maps.OwnSet
import Derived.OneCell
import Derived.OrdersHeld
import Derived.OrdersIn
import Derived.OwnWalkIn
import Derived.RangeFuncBound
import Derived.RangeFuncBox
import Derived.RangeFuncCalls
import Derived.RangeFuncLeaves
import Derived.RangeFuncNested
import Derived.RangeFuncWrites
import Derived.Shelf.Abstract
import Derived.Shelf.SortM.Plain
import Derived.Still
import Derived.TacticsIn
import Derived.TacticsInMore
import Derived.Test.YtmfpdakaeagdpaaGreatProg
import Derived.WalkKit
import Derived.WalkLawsBesides
import Derived.WalkSpells
import Derived.WideKeyPair
namespace Go.Proofs.YtmfpdakaeagdpaaGreat
set_option maxRecDepth 100000
set_option maxHeartbeats 16000000
section
open Go Go.RowKit
attribute [local go_sem] over_cell
attribute [local go_sem] Oper.semAt_some
theorem sumN_nil {f:Nat→Nat} {k:Nat} (h:∀t,t<k→f t=0):sumN f k=0:=(sumN_congr h).trans (sumN_zero k)
theorem iuK_zero (n:Nat) (cs:List Int) (i:Nat):iuK n cs i (i+1)=0:=sumN_nil fun t ht=>if_neg (by omega)
theorem iuM_zero (n:Nat) (cs:List Int) (i k j:Nat):iuM n cs i k j (j+1)=0:=sumN_nil fun t ht=>if_neg (by omega)
theorem iuK_next (n:Nat) (cs:List Int) {i k:Nat} (h:i<k):iuK n cs i (k+1)=iuK n cs i k+iuJ n cs i k n:=by
 unfold iuK;rw[sumN_succ,if_pos h]
theorem iuM_next (n:Nat) (cs:List Int) (i k:Nat) {j m:Nat} (h:j<m):iuM n cs i k j (m+1)=iuM n cs i k j m+itC n cs i k j m:=by
 unfold iuM;rw[sumN_succ,if_pos h]
theorem rinter_c (N nn:Nat) (hnn:nn=N*N) (a:Option Addr) (ca:Nat) (cs:List Int) (w:World) (h:IC w a nn cs) (L:Latin N cs) :
  Calls Tryz.prog 79 #[.agg #[.int .i64 (N:Int),.int .i64 (N:Int),.slice a nn ca]] w fun e w'=>e = .returned (.int .i64 (itK N cs N:Int))∧Below w.heap.size w w':=by
 have hN1:=L.pos
 have hN2:=L.le
 rw[← inter_eq]
 have hq2:N*N≤256:=Nat.mul_le_mul hN2 hN2
 have hq3:N*(N*N)≤16*256:=Nat.mul_le_mul hN2 hq2
 have hq4:N*(N*(N*N))≤16*(16*256):=Nat.mul_le_mul hN2 hq3
 have hnn2:nn≤256:=by rw[hnn];exact hq2
 have HB1:Hid (∀i,i≤N→iuI N cs i≤65536):=fun i hi=>Nat.le_trans (iuI_le N cs i hi) hq4
 have HB2:Hid (∀i k,k≤N→iuK N cs i k≤4096):=fun i k hk=>Nat.le_trans (iuK_le N cs i k hk) hq3
 have HB3:Hid (∀i k j,j≤N→iuJ N cs i k j≤256):=fun i k j hj=>Nat.le_trans (iuJ_le N cs i k j hj) hq2
 have HB4:Hid (∀i k j m,m≤N→iuM N cs i k j m≤16):=fun i k j m hm=>Nat.le_trans (iuM_le N cs i k j m) (by omega)
 have HS1:Hid (∀i,iuI N cs (i+1)=iuI N cs i+iuK N cs i N):=fun i=>rfl
 have HS2:Hid (∀i k,i<k→iuK N cs i (k+1)=iuK N cs i k+iuJ N cs i k N):=fun i k hk=>iuK_next N cs hk
 have HS3:Hid (∀i k j,iuJ N cs i k (j+1)=iuJ N cs i k j+iuM N cs i k j N):=fun i k j=>rfl
 have HS4:Hid (∀i k j m,j<m→iuM N cs i k j (m+1)=iuM N cs i k j m+(if cs[i*N+j]?.getD 0=cs[k*N+m]?.getD 0∧cs[i*N+m]?.getD 0=cs[k*N+j]?.getD 0 then 1 else 0)):=fun i k j m hm=>iuM_next N cs i k hm
 have HZ1:Hid (iuI N cs 0=0):=rfl
 have HZ2:Hid (∀i,iuK N cs i (i+1)=0):=fun i=>iuK_zero N cs i
 have HZ3:Hid (∀i k,iuJ N cs i k 0=0):=fun i k=>rfl
 have HZ4:Hid (∀i k j,iuM N cs i k j (j+1)=0):=fun i k j=>iuM_zero N cs i k j
 have HLT:Hid (∀i j,i<N→j<N→i*N+j<nn):=fun i j hi hj=>by rw[hnn];exact gcell_lt hi hj
 obtain ⟨b,off,ha,hbl,_⟩:=h.2 0 (by rw[hnn];exact Nat.mul_pos hN1 hN1)
 have HI:=Lib.hid h
 subst ha
 clear h hnn L hbl hq2 hq3 hq4
 generalize iuI N cs=fI at HB1 HS1 HZ1 ⊢
 generalize iuK N cs=fK at HB2 HS1 HS2 HZ2
 generalize iuJ N cs=fJ at HB3 HS2 HS3 HZ3
 generalize iuM N cs=fM at HB4 HS3 HS4 HZ4
 go_enter Tryz.func79,Tryz.ntmps79
 go_upto_region 1 with fail
 have fsz:(w.alloc (.cells #[.int .i64 (N:Int),.int .i64 (N:Int),.slice (some ⟨b,off,none⟩) nn ca] 24)).heap.size=w.heap.size+1:=by simp only[World.size_alloc]
 have fB:Below w.heap.size w (w.alloc (.cells #[.int .i64 (N:Int),.int .i64 (N:Int),.slice (some ⟨b,off,none⟩) nn ca] 24)):=(Below.refl _ _).alloc (Nat.le_refl _) _
 have fq0:(w.alloc (.cells #[.int .i64 (N:Int),.int .i64 (N:Int),.slice (some ⟨b,off,none⟩) nn ca] 24)).heap[w.heap.size]?=some (.cells #[.int .i64 (N:Int),.int .i64 (N:Int),.slice (some ⟨b,off,none⟩) nn ca] 24 (0,0)):=by have h:=World.alloc_heap_new w (.cells #[.int .i64 (N:Int),.int .i64 (N:Int),.slice (some ⟨b,off,none⟩) nn ca] 24);exact h
 generalize (w.alloc (.cells #[.int .i64 (N:Int),.int .i64 (N:Int),.slice (some ⟨b,off,none⟩) nn ca] 24))=W0 at fsz fB fq0 ⊢
 have Q0:=Lib.hid fq0
 have FB:=Lib.hid fB
 obtain ⟨x0,x1,x2,xl⟩:=c3_of fq0
 clear fq0 fsz fB
 go_wp2_with fail
 go_loopw [4,5,6,7,8] (fun s4 s5 _ _ _ wr=>∃i T:Nat,i≤N∧s5 = .int .i64 (i:Int)∧s4 = .int .i64 (T:Int)∧Hid (T=fI i)∧Hid (Below W0.heap.size W0 wr)) (fun _ s5 _ _ _ _=>N - (intOf s5).toNat)
 case atStart=>exact ⟨0,0,by omega,rfl,rfl,HZ1.out.symm,Below.refl _ _⟩
 case round =>
  obtain ⟨i,T,hi,rfl,rfl,hT,hb1⟩:=hrel
  clear x0 x1 x2 xl
  by_cases hlt:i<N
  ·have hii:(i:Int)<(N:Int):=by omega
   go_wp2_with fail
   go_loopw [4,6,7,8] (fun s4 s6 _ _ wr=>∃k T:Nat,i<k∧k≤N∧s6 = .int .i64 (k:Int)∧s4 = .int .i64 (T:Int)∧Hid (T=fI i+fK i k)∧Hid (Below W0.heap.size W0 wr)) (fun _ s6 _ _ _=>N - (intOf s6).toNat)
   case atStart=>exact ⟨i+1,T,by omega,by omega,by go_num,rfl,by unfold Hid;rw[HZ2.out,hT.out];rfl,hb1⟩
   case round =>
    obtain ⟨k,T2,hik,hk,rfl,rfl,hT2,hb2⟩:=hrel
    by_cases hlt2:k<N
    ·have hki:(k:Int)<(N:Int):=by omega
     go_wp2_with fail
     go_loopw [4,7,8] (fun s4 s7 _ wr=>∃j T:Nat,j≤N∧s7 = .int .i64 (j:Int)∧s4 = .int .i64 (T:Int)∧Hid (T=fI i+fK i k+fJ i k j)∧Hid (Below W0.heap.size W0 wr)) (fun _ s7 _ _=>N - (intOf s7).toNat)
     case atStart=>exact ⟨0,T2,by omega,rfl,rfl,by unfold Hid;rw[HZ3.out,hT2.out];rfl,hb2⟩
     case round =>
      obtain ⟨j,T3,hj,rfl,rfl,hT3,hb3⟩:=hrel
      by_cases hlt3:j<N
      ·have hji:(j:Int)<(N:Int):=by omega
       go_wp2_with fail
       go_loopw [4,8] (fun s4 s8 wr=>∃m T:Nat,j<m∧m≤N∧s8 = .int .i64 (m:Int)∧s4 = .int .i64 (T:Int)∧Hid (T=fI i+fK i k+fJ i k j+fM i k j m)∧Hid (Below W0.heap.size W0 wr)) (fun _ s8 _=>N - (intOf s8).toNat)
       case atStart=>exact ⟨j+1,T3,by omega,by omega,by go_num,rfl,by unfold Hid;rw[HZ4.out,hT3.out];rfl,hb3⟩
       case round =>
        obtain ⟨m,T4,hjm,hm,rfl,rfl,hT4,hb4⟩:=hrel
        by_cases hlt4:m<N
        ·have hmi:(m:Int)<(N:Int):=by omega
         obtain ⟨x0,x1,x2,xl⟩:=c3_of (keepq hb4.out Q0.out)
         have l1:=HLT.out i j hlt hlt3
         have l2:=HLT.out k m hlt2 hlt4
         have l3:=HLT.out i m hlt hlt4
         have l4:=HLT.out k j hlt2 hlt3
         have HM:=HI.out.mono (keep_trans FB.out hb4.out)
         obtain ⟨_,_,e0,hbw,c1⟩:=HM.2 _ l1
         cases e0
         obtain ⟨_,_,e0,_,c2⟩:=HM.2 _ l2
         cases e0
         obtain ⟨_,_,e0,_,c3⟩:=HM.2 _ l3
         cases e0
         obtain ⟨_,_,e0,_,c4⟩:=HM.2 _ l4
         cases e0
         have hT:T4≤100000:=by rw[hT4.out];have:=HB1.out i (by omega);have:=HB2.out i k (by omega);have:=HB3.out i k j (by omega);have:=HB4.out i k j m (by omega);omega
         have HN:=Lib.hid (HS4.out i k j m hjm)
         have f1:(i:Int)*(N:Int)=((i*N:Nat):Int):=(Int.natCast_mul _ _).symm
         have f2:(k:Int)*(N:Int)=((k*N:Nat):Int):=(Int.natCast_mul _ _).symm
         clear HM
         generalize cs[i*N+j]?.getD 0=A at c1 HN
         generalize cs[k*N+m]?.getD 0=B at c2 HN
         generalize cs[i*N+m]?.getD 0=C at c3 HN
         generalize cs[k*N+j]?.getD 0=D at c4 HN
         generalize i*N=p at f1 l1 l3 c1 c3
         generalize k*N=q at f2 l2 l4 c2 c4
         have j1:(p:Int)+(j:Int)<(nn:Int):=by omega
         have j2:(q:Int)+(m:Int)<(nn:Int):=by omega
         have j3:(p:Int)+(m:Int)<(nn:Int):=by omega
         have j4:(q:Int)+(j:Int)<(nn:Int):=by omega
         by_cases hAB:A=B
         ·have d1:(A==B)=true:=by simpa using hAB
          by_cases hCD:C=D
          ·have d2:(C==D)=true:=by simpa using hCD
           have hN9:Hid (T4+1=fI i+fK i k+fJ i k j+fM i k j (m+1)):=by unfold Hid;rw[HN.out,if_pos ⟨hAB,hCD⟩,hT4.out];omega
           clear hAB hCD HN
           go_wp2_with fail
           refine wp_region_S (fun w'=>∃u,w'=over (wr) u) [] [(0,0),(0,1),(0,2),(0,3),(0,4),(0,5),(0,6),(0,7),(0,8),(0,9),(0,10),(0,11),(0,12),(0,13),(0,14),(0,15),(0,16),(0,17),(0,18),(0,19),(0,20),(0,21),(0,22),(0,23),(0,24),(0,25),(0,26),(0,27),(0,28),(0,29),(0,30),(0,31),(0,32),(0,33),(0,34),(0,35),(0,36),(0,37),(0,38),(0,39)] (by kernel_rfl) (by kernel_rfl) (by exact ⟨_,below_over (by repeat (first|assumption|exact Below.refl _ _|refine keep_drew ?_|refine keep_alloc ?_ _|refine keep_trans ?_ (by assumption)))⟩) ?_
           dsimp only[pickOps,nthOp]
           repeat (first|(refine wpS_skip rfl (fun K hK=>?_);go_big_quiet_op;refine hK _ ?_;clear hK K)|(refine wpS_quiet rfl rfl (fun K hK=>?_);go_big_quiet_op;refine hK _ ?_;clear hK K))
           refine wpS_end ?_
           go_wp2_with fail
           go_roundw
           case rel=>exact ⟨m+1,T4+1,by omega,by omega,by go_num,by go_num,hN9,hb4.out.drew⟩
           case measure=>simp[intOf];omega
          ·have d2:(C==D)=false:=by simpa using hCD
           have hN9:Hid (T4=fI i+fK i k+fJ i k j+fM i k j (m+1)):=by unfold Hid;rw[HN.out,if_neg (fun e=>hCD e.2),hT4.out];omega
           clear hAB hCD HN
           go_wp2_with fail
           refine wp_region_S (fun w'=>∃u,w'=over (wr) u) [] [(0,0),(0,1),(0,2),(0,3),(0,4),(0,5),(0,6),(0,7),(0,8),(0,9),(0,10),(0,11),(0,12),(0,13),(0,14),(0,15),(0,16),(0,17),(0,18),(0,19),(0,20),(0,21),(0,22),(0,23),(0,24),(0,25),(0,26),(0,27),(0,28),(0,29),(0,30),(0,31),(0,32),(0,33),(0,34),(0,35),(0,36),(0,37),(0,38),(0,39)] (by kernel_rfl) (by kernel_rfl) (by exact ⟨_,below_over (by repeat (first|assumption|exact Below.refl _ _|refine keep_drew ?_|refine keep_alloc ?_ _|refine keep_trans ?_ (by assumption)))⟩) ?_
           dsimp only[pickOps,nthOp]
           repeat (first|(refine wpS_skip rfl (fun K hK=>?_);go_big_quiet_op;refine hK _ ?_;clear hK K)|(refine wpS_quiet rfl rfl (fun K hK=>?_);go_big_quiet_op;refine hK _ ?_;clear hK K))
           refine wpS_end ?_
           go_wp2_with fail
           go_roundw
           case rel=>exact ⟨m+1,T4,by omega,by omega,by go_num,rfl,hN9,hb4.out.drew⟩
           case measure=>simp[intOf];omega
         ·have d1:(A==B)=false:=by simpa using hAB
          have hN9:Hid (T4=fI i+fK i k+fJ i k j+fM i k j (m+1)):=by unfold Hid;rw[HN.out,if_neg (fun e=>hAB e.1),hT4.out];omega
          clear hAB HN
          go_wp2_with fail
          refine wp_region_S (fun w'=>∃u,w'=over (wr) u) [] [(0,0),(0,1),(0,2),(0,3),(0,4),(0,5),(0,6),(0,7),(0,8),(0,9),(0,10),(0,11),(0,12),(0,13),(0,14),(0,15),(0,16),(0,17),(0,18),(0,19),(0,20),(0,21),(0,22),(0,23),(0,24),(0,25),(0,26),(0,27),(0,28),(0,29),(0,30),(0,31),(0,32),(0,33),(0,34),(0,35),(0,36),(0,37),(0,38),(0,39)] (by kernel_rfl) (by kernel_rfl) (by exact ⟨_,below_over (by repeat (first|assumption|exact Below.refl _ _|refine keep_drew ?_|refine keep_alloc ?_ _|refine keep_trans ?_ (by assumption)))⟩) ?_
          dsimp only[pickOps,nthOp]
          repeat (first|(refine wpS_skip rfl (fun K hK=>?_);go_big_quiet_op;refine hK _ ?_;clear hK K)|(refine wpS_quiet rfl rfl (fun K hK=>?_);go_big_quiet_op;refine hK _ ?_;clear hK K))
          refine wpS_end ?_
          go_wp2_with fail
          go_roundw
          case rel=>exact ⟨m+1,T4,by omega,by omega,by go_num,rfl,hN9,hb4.out.drew⟩
          case measure=>simp[intOf];omega
        ·have e:m=N:=by omega
         have hN9:Hid (T4=fI i+fK i k+fJ i k (j+1)):=by unfold Hid;rw[HS3.out,hT4.out,e];omega
         have hno:¬(m:Int)<(N:Int):=by omega
         clear e
         go_wp2_with fail
         go_roundw
         case rel=>exact ⟨j+1,T4,by omega,by go_num,rfl,hN9,hb4⟩
         case measure=>simp[intOf];omega
      ·have e:j=N:=by omega
       have hN9:Hid (T3=fI i+fK i (k+1)):=by unfold Hid;rw[HS2.out i k hik,hT3.out,e];omega
       have hno:¬(j:Int)<(N:Int):=by omega
       clear e
       go_wp2_with fail
       go_roundw
       case rel=>exact ⟨k+1,T3,by omega,by omega,by go_num,rfl,hN9,hb3⟩
       case measure=>simp[intOf];omega
    ·have e:k=N:=by omega
     have hN9:Hid (T2=fI (i+1)):=by unfold Hid;rw[HS1.out,hT2.out,e]
     have hno:¬(k:Int)<(N:Int):=by omega
     clear e
     go_wp2_with fail
     go_roundw
     case rel=>exact ⟨i+1,T2,by omega,by go_num,rfl,hN9,hb2⟩
     case measure=>simp[intOf];omega
  ·have e:i=N:=by omega
   have hno:¬(i:Int)<(N:Int):=by omega
   have hT9:=hT.out
   rw[e] at hT9
   have HT9:=Lib.hid hT9
   clear e hT9 hT
   go_wp2_with fail
   refine bodyPost_ret (v := .int .i64 (T:Int)) ?_ rfl ⟨by rw[HT9.out],keep_trans FB.out hb1.out⟩
   simp[results,Tryz.f79,go_sem]
end
section
open Go Go.RowKit
attribute [local go_sem] over_cell
attribute [local go_sem] Oper.semAt_some
theorem rall_c (N nn:Nat) (hnn:nn=N*N) (a:Option Addr) (ca:Nat) (cs:List Int) (s t:Nat) (hs:s≤16) (ht:t≤16) (w:World) (h:IC w a nn cs) (L:Latin N cs) :
  Calls Tryz.prog 146 #[.agg #[.int .i64 (N:Int),.int .i64 (N:Int),.slice a nn ca],.int .i64 (s:Int),.int .i64 (t:Int)] w fun e w'=>e = .returned (.bool (onceB N cs (fun i=>((s+i*t:Nat):Int))))∧Below w.heap.size w w':=by
 obtain ⟨i0,hi,hz0,hz1,hz2⟩:=info_parts infoInt
 have hN1:=L.pos
 have hN2:=L.le
 have hne:(N:Int)≠0:=by omega
 obtain ⟨col,hcol⟩:∃col:Nat→Int,col=fun i=>((s+i*t:Nat):Int):=⟨_,rfl⟩
 rw[← hcol]
 have HX:Hid (∀i,onceX N cs col i=cs[i*N+(s+i*t) % N]?.getD 0):=fun i=>by
  unfold onceX;rw[hcol]
  show cs[i*N+(((s+i*t:Nat):Int) % (N:Int)).toNat]?.getD 0=_
  rw[← Int.natCast_emod,Int.toNat_natCast]
 have HLT:Hid (∀i,i<N→i*N+(s+i*t) % N<nn∧(s+i*t) % N<N∧i*t≤256):=fun i hi=>⟨by rw[hnn];exact gcell_lt hi (Nat.mod_lt _ (by omega)),Nat.mod_lt _ (by omega),Nat.mul_le_mul (show i≤16 by omega) ht⟩
 have hnn2:nn≤256:=by rw[hnn];exact Nat.mul_le_mul hN2 hN2
 have HXS:=Lib.hid (onceXs_succ N cs col)
 have HXL:Hid (∀k,(onceXs N cs col k).length=k):=fun k=>by unfold onceXs;simp
 have HMISS:Hid (∀k,k<N→(onceXs N cs col k).contains (onceX N cs col k)=true→onceB N cs col=false):=fun k hk e=>by
  unfold onceB;exact allr_miss (p:=fun i=>!(onceXs N cs col i).contains (onceX N cs col i)) hk (by show (!(onceXs N cs col k).contains (onceX N cs col k))=false;rw[e];rfl)
 have HALL:Hid ((∀k,k<N→(onceXs N cs col k).contains (onceX N cs col k)=false)→onceB N cs col=true):=fun h1=>by
  unfold onceB;exact allr_upto (p:=fun i=>!(onceXs N cs col i).contains (onceX N cs col i)) fun k hk=>by show (!(onceXs N cs col k).contains (onceX N cs col k))=true;rw[h1 k hk];rfl
 have HIC:=Lib.hid h
 clear h hnn L hcol
 generalize onceB N cs col=R at HMISS HALL ⊢
 generalize onceXs N cs col=xs at HXS HXL HMISS HALL
 generalize onceX N cs col=xv at HX HXS HMISS HALL
 go_enter Tryz.func146,Tryz.ntmps146
 go_upto_region 1 with fail
 have fsz:(w.alloc (.cells #[.int .i64 (N:Int),.int .i64 (N:Int),.slice a nn ca] 24)).heap.size=w.heap.size+1:=by simp only[World.size_alloc]
 have fB:Below w.heap.size w (w.alloc (.cells #[.int .i64 (N:Int),.int .i64 (N:Int),.slice a nn ca] 24)):=(Below.refl _ _).alloc (Nat.le_refl _) _
 have fq0:(w.alloc (.cells #[.int .i64 (N:Int),.int .i64 (N:Int),.slice a nn ca] 24)).heap[w.heap.size]?=some (.cells #[.int .i64 (N:Int),.int .i64 (N:Int),.slice a nn ca] 24 (0,0)):=by have h:=World.alloc_heap_new w (.cells #[.int .i64 (N:Int),.int .i64 (N:Int),.slice a nn ca] 24);exact h
 generalize (w.alloc (.cells #[.int .i64 (N:Int),.int .i64 (N:Int),.slice a nn ca] 24))=W0 at fsz fB fq0 ⊢
 have Q0:=Lib.hid fq0
 have FB:=Lib.hid fB
 clear fq0 fsz fB
 go_wp2_with fail
 go_loopw [7,8,9] (fun s7 s8 _ wr=>∃(k:Nat) (av:Option Addr) (cv:Nat),k≤N∧s8 = .int .i64 (k:Int)∧s7 = .slice av (xs k).length cv∧Hid (wr.ownsRow W0.heap.size 3 1 (.slice av (xs k).length cv) (xs k).length ((xs k).map (Value.int .i64)))∧Hid (Below W0.heap.size W0 wr)∧Hid (∀k',k'<k→(xs k').contains (xv k')=false)) (fun _ s8 _ _=>N - (intOf s8).toNat)
 case atStart =>
  have h0:xs 0=[]:=List.length_eq_zero_iff.1 (HXL.out 0)
  exact ⟨0,none,0,by omega,rfl,by rw[h0];rfl,by unfold Hid;rw[h0];exact World.ownsRow_nil _ _ _ _,Below.refl _ _,fun k hk=>absurd hk (by omega)⟩
 case round =>
  obtain ⟨k,av,cv,hk,rfl,rfl,hO,hbr,hall⟩:=hrel
  obtain ⟨x0,x1,x2,xl⟩:=c3_of (keepq hbr.out Q0.out)
  by_cases hlt:k<N
  ·have hki:(k:Int)<(N:Int):=by omega
   have HS:=Lib.hid (HXS.out k)
   have HL:=Lib.hid (HXL.out k)
   obtain ⟨l1,l2,l3⟩:=HLT.out k hlt
   obtain ⟨b,off,rfl,hbb,hc⟩:=(HIC.out.mono (keep_trans FB.out hbr.out)).2 _ l1
   rw[← HX.out k] at hc
   have m1:(k:Int)*(N:Int)=((k*N:Nat):Int):=(Int.natCast_mul _ _).symm
   have m2:(k:Int)*(t:Int)=((k*t:Nat):Int):=(Int.natCast_mul _ _).symm
   have m3:(s:Int)+((k*t:Nat):Int)=((s+k*t:Nat):Int):=(Int.natCast_add _ _).symm
   have m4:((s+k*t:Nat):Int) % (N:Int)=(((s+k*t) % N:Nat):Int):=(Int.natCast_emod _ _).symm
   have hK1:=Lib.hid (HMISS.out k hlt)
   have hOI:=hO.out
   generalize hAB:(xs k).contains (xv k)=B at hK1
   have HHA:Hid (∀W,Below wr.heap.size wr W→Calls Tryz.prog 111 #[.slice av (xs k).length cv,.int .i64 (xv k)] W fun e w'=>e = .returned (.bool B)∧W=w'):=fun W hb=>by
    have h9:=rhas4_c av (xs k).length cv (xs k) (xv k) W ((IC.of_owns hOI (by rw[HXL.out];omega)).1.mono hb)
    rw[show hasB (xs k) (xv k)=B from hAB] at h9
    exact h9
   have HAB:=Lib.hid hAB
   have HNX:Hid (B=false→∀k',k'<k+1→(xs k').contains (xv k')=false):=fun e k' hk'=>by
    rcases Nat.lt_or_ge k' k with e3|e3
    ·exact hall.out k' e3
    ·rw[show k'=k by omega,HAB.out];exact e
   clear hOI hAB
   have m5:s+k*t≤1000:=by omega
   generalize (s+k*t) % N=v at m4 l1 l2 hc
   generalize s+k*t=u at m3 m4 m5
   generalize k*t=q at m2 m3
   generalize k*N=p at m1 l1 hc
   have j1:(p:Int)+(v:Int)<(nn:Int):=by omega
   have hsz:=hbr.out.size
   generalize xv k=X at hc HHA HAB HS
   go_wp2_with fail
   refine wp_region_S (fun w'=>∃u,w'=over (wr) u) [17] [(0,0),(0,1),(0,2),(0,3),(0,4),(0,5),(0,6),(0,7),(0,8),(0,9),(0,10),(0,11),(0,12),(0,13),(0,14),(0,15),(0,16),(2,17)] (by kernel_rfl) (by kernel_rfl) (by exact ⟨_,below_over (by repeat (first|assumption|exact Below.refl _ _|refine keep_drew ?_|refine keep_alloc ?_ _|refine keep_trans ?_ (by assumption)))⟩) ?_
   dsimp only[pickOps,nthOp]
   repeat (first|(refine wpS_skip rfl (fun K hK=>?_);go_big_quiet_op;refine hK _ ?_;clear hK K)|(refine wpS_quiet rfl rfl (fun K hK=>?_);go_big_quiet_op;refine hK _ ?_;clear hK K))
   refine wpS_late _ _ _ rfl ?_
   dsimp only[List.map]
   go_wp2
   refine NoPanic.normal ?_
   have hO2:=Lib.hid (owns_drew hO.out)
   have hB2:Below wr.heap.size wr wr.drew:=(Below.refl _ _).drew
   have hb2:=Lib.hid (keep_trans hbr.out hB2)
   have hsz2:=hb2.out.size
   have HH2:=Lib.hid (HHA.out _ hB2)
   clear x0 x1 x2 xl hB2 hbb hc HHA
   generalize wr.drew=wd at hO2 hb2 HH2 hsz2 ⊢
   cases B with
   | true =>
    have hF:=Lib.hid (hK1.out rfl)
    go_wp2_with (first|(go_at_call 111;(with_reducible refine HH2.out.mono ?_);rintro _ w6 ⟨rfl,h6⟩;subst h6)|fail)
    refine bodyPost_ret (v := .bool false) ?_ rfl ⟨by rw[hF.out],keep_trans FB.out hb2.out⟩
    simp[results,Tryz.f146,go_sem]
   | false =>
    have HN9:=Lib.hid (HNX.out rfl)
    clear HNX
    go_wp2_with (first|(go_at_call 111;(with_reducible refine HH2.out.mono ?_);rintro _ w6 ⟨rfl,h6⟩;subst h6)|(at_builtin;refine wpList_append_ext _ rfl _ _ 22 rfl _ 3 i0 (.int .i64 0) 8 Tryz.underlying22 hi hz0 hz1 hz2 rfl (.slice av (xs k).length cv) (xs k).length _ rfl (hO2.out.alloc _) (by rw[World.size_alloc];omega) ⟨wd.heap.size,0,none⟩ 1 1 [.int .i64 X] rfl rfl (cell_one_new _ _ _) (by simp[Value.oneCell']) (by have:=HL.out;unfold maxLen;omega) (by have:=HL.out;omega) ?_;intro v7 w7 hown7 hst7 hx7;obtain ⟨a7,c7,rfl⟩:=owns_shape hown7)|fail)
    go_roundw
    case rel =>
     refine ⟨k+1,a7,c7,by omega,by go_num,by rw[HS.out,List.length_append,List.length_singleton],?_,hst7.below' (by rw[World.size_alloc];omega) (hb2.out.alloc hsz2 _) (fun k e=>(hO2.out.lt k e).1),HN9.out⟩
     rw[HS.out,List.length_append,List.length_singleton,List.map_append]
     exact hown7
    case measure=>simp[intOf];omega
  ·have e:k=N:=by omega
   have hki:¬(k:Int)<(N:Int):=by omega
   have hF:=hall.out
   rw[e] at hF
   have HF:=Lib.hid (HALL.out hF)
   clear e hF
   go_wp2_with fail
   refine bodyPost_ret (v := .bool true) ?_ rfl ⟨by rw[HF.out],keep_trans FB.out hbr.out⟩
   simp[results,Tryz.f146,go_sem]
end
section
open Go Go.RowKit
attribute [local go_sem] over_cell
attribute [local go_sem] Oper.semAt_some
def grpAt (N:Nat) (rs:List Int) (x y z:Nat):Prop:=nat rs (nat rs (x*N+y)*N+z)=nat rs (x*N+nat rs (y*N+z))
theorem rgroup_c (N nn:Nat) (hnn:nn=N*N) (a:Option Addr) (ca:Nat) (cs:List Int) (w:World) (h:IC w a nn cs) (hca:nn≤ca) (L:Latin N cs) :
  Calls Tryz.prog 147 #[.agg #[.int .i64 (N:Int),.int .i64 (N:Int),.slice a nn ca]] w fun e w'=>e = .returned (.bool (kGrp N cs))∧Below w.heap.size w w':=by
 have hN1:=L.pos
 have hN2:=L.le
 have hnn2:nn≤256:=by rw[hnn];exact Nat.mul_le_mul hN2 hN2
 have HRD:=Lib.hid (fun W (hb:Below w.heap.size w W)=>rreduce_c N nn hnn a ca cs W (h.mono hb) hca L)
 rw[reduL_any L 0 (-1)] at HRD
 have LR:Latin N (reduL (-1) N cs):=redu_latin L
 have hG:=kGrp_iff (cs:=cs) hN1
 generalize reduL (-1) N cs=rs at HRD LR hG
 have HMISS:Hid (∀x y z,x<N→y<N→z<N→nat rs (nat rs (x*N+y)*N+z)≠nat rs (x*N+nat rs (y*N+z))→kGrp N cs=false):=fun x y z hx hy hz hne=>by
  cases hk:kGrp N cs with
  | true=>exact absurd (hG.1 hk x y z hx hy hz) hne
  | false=>rfl
 have HALL:Hid ((∀x y z,x<N→y<N→z<N→grpAt N rs x y z)→kGrp N cs=true):=fun h1=>hG.2 h1
 generalize kGrp N cs=R at HMISS HALL ⊢
 have HNAT:Hid (∀p q,p<N→q<N→p*N+q<nn∧rs[p*N+q]?.getD 0=(nat rs (p*N+q):Int)∧nat rs (p*N+q)<N):=fun p q hp hq=>by
  have h1:=gcell_lt hp hq
  have h2:=LR.nat h1
  exact ⟨by rw[hnn];exact h1,h2.1,h2.2⟩
 clear h hnn L LR hG
 go_enter Tryz.func147,Tryz.ntmps147
 go_upto_region 1 with fail
 have fsz:(w.alloc (.cells #[.int .i64 (N:Int),.int .i64 (N:Int),.slice a nn ca] 24)).heap.size=w.heap.size+1:=by simp only[World.size_alloc]
 have fB:Below w.heap.size w (w.alloc (.cells #[.int .i64 (N:Int),.int .i64 (N:Int),.slice a nn ca] 24)):=(Below.refl _ _).alloc (Nat.le_refl _) _
 have fq0:(w.alloc (.cells #[.int .i64 (N:Int),.int .i64 (N:Int),.slice a nn ca] 24)).heap[w.heap.size]?=some (.cells #[.int .i64 (N:Int),.int .i64 (N:Int),.slice a nn ca] 24 (0,0)):=by have h:=World.alloc_heap_new w (.cells #[.int .i64 (N:Int),.int .i64 (N:Int),.slice a nn ca] 24);exact h
 generalize (w.alloc (.cells #[.int .i64 (N:Int),.int .i64 (N:Int),.slice a nn ca] 24))=W0 at fsz fB fq0 ⊢
 have FB:=Lib.hid fB
 obtain ⟨x0,x1,x2,xl⟩:=c3_of fq0
 clear fq0 fsz fB
 refine wp_region_S (fun w'=>∃u,w'=over (W0) u) [6] [(0,0),(0,1),(0,2),(1,3),(0,4),(1,5),(2,6)] (by kernel_rfl) (by kernel_rfl) (by exact ⟨_,below_over (by repeat (first|assumption|exact Below.refl _ _|refine keep_drew ?_|refine keep_alloc ?_ _|refine keep_trans ?_ (by assumption)))⟩) ?_
 dsimp only[pickOps,nthOp]
 repeat (first|(refine wpS_skip rfl (fun K hK=>?_);go_big_quiet_op;refine hK _ ?_;clear hK K)|(refine wpS_quiet rfl rfl (fun K hK=>?_);go_big_quiet_op;refine hK _ ?_;clear hK K)|(refine wpS_quiet rfl rfl (fun K hK=>?_);refine ⟨_,fun w' _=>And.intro rfl rfl,?_⟩;refine hK _ ?_;clear hK K)|(refine wpS_loud ?_;go_wp2_with (first|(go_at_call 89;refine (HRD.out _ (keep_trans FB.out (by (repeat (first|assumption|exact Below.refl _ _|refine keep_drew ?_|refine keep_alloc ?_ _|refine keep_trans ?_ (by assumption)))))).mono ?_;rintro _ w1 ⟨g,rfl,ho1,hb1⟩)|fail );refine ⟨?_,?_⟩;focus (exact ⟨_,below_over (by repeat (first|assumption|exact Below.refl _ _|refine keep_drew ?_|refine keep_alloc ?_ _|refine keep_trans ?_ (by assumption)))⟩)))
 refine wpS_late _ _ _ rfl ?_
 dsimp only[List.map]
 go_wp2_with (first|(go_at_call 89;refine (HRD.out _ (keep_trans FB.out (by (repeat (first|assumption|exact Below.refl _ _|refine keep_drew ?_|refine keep_alloc ?_ _|refine keep_trans ?_ (by assumption)))))).mono ?_;rintro _ w1 ⟨g,rfl,ho1,hb1⟩)|fail )
 refine NoPanic.normal ?_
 have hB1:Below W0.heap.size W0 w1:=by (repeat (first|assumption|exact Below.refl _ _|refine keep_drew ?_|refine keep_alloc ?_ _|refine keep_trans ?_ (by assumption)))
 have HB1:=Lib.hid (keep_trans FB.out hB1)
 have HI:=Lib.hid (ho1.ic (by omega))
 clear hB1 hb1 ho1 x0 x1 x2 xl HRD
 go_wp2_with fail
 go_loopw [5,6,7] (fun s5 _ _ wr=>∃x:Nat,x≤N∧s5 = .int .i64 (x:Int)∧Hid (Below w1.heap.size w1 wr)∧Hid (∀x',x'<x→∀y z,y<N→z<N→grpAt N rs x' y z)) (fun s5 _ _ _=>N - (intOf s5).toNat)
 case atStart=>exact ⟨0,by omega,rfl,Below.refl _ _,fun x hx=>absurd hx (by omega)⟩
 case round =>
  obtain ⟨x,hx,rfl,hb2,hpx⟩:=hrel
  by_cases hlt:x<N
  ·have hii:(x:Int)<(N:Int):=by omega
   go_wp2_with fail
   go_loopw [6,7] (fun s6 _ wr=>∃y:Nat,y≤N∧s6 = .int .i64 (y:Int)∧Hid (Below w1.heap.size w1 wr)∧Hid (∀y',y'<y→∀z,z<N→grpAt N rs x y' z)) (fun s6 _ _=>N - (intOf s6).toNat)
   case atStart=>exact ⟨0,by omega,rfl,hb2,fun x hx=>absurd hx (by omega)⟩
   case round =>
    obtain ⟨y,hy,rfl,hb3,hpy⟩:=hrel
    by_cases hlt2:y<N
    ·have hji:(y:Int)<(N:Int):=by omega
     go_wp2_with fail
     go_loopw [7] (fun s7 wr=>∃z:Nat,z≤N∧s7 = .int .i64 (z:Int)∧Hid (Below w1.heap.size w1 wr)∧Hid (∀z',z'<z→grpAt N rs x y z')) (fun s7 _=>N - (intOf s7).toNat)
     case atStart=>exact ⟨0,by omega,rfl,hb3,fun x hx=>absurd hx (by omega)⟩
     case round =>
      obtain ⟨z,hz,rfl,hb4,hpz⟩:=hrel
      by_cases hlt3:z<N
      ·have hzi:(z:Int)<(N:Int):=by omega
       obtain ⟨l1,v1,b1⟩:=HNAT.out x y hlt hlt2
       obtain ⟨l2,v2,b2⟩:=HNAT.out y z hlt2 hlt3
       have HMX:=Lib.hid (HMISS.out x y z hlt hlt2 hlt3)
       have HNZ:Hid (nat rs (nat rs (x*N+y)*N+z)=nat rs (x*N+nat rs (y*N+z))→∀z',z'<z+1→grpAt N rs x y z'):=fun e z' hz'=>by
        rcases Nat.lt_or_ge z' z with e3|e3
        ·exact hpz.out z' e3
        ·rw[show z'=z by omega];exact e
       have HI4:=HI.out.mono hb4.out
       obtain ⟨_,_,e0,hbg,c1⟩:=HI4.2 _ l1
       cases e0
       obtain ⟨_,_,e0,_,c2⟩:=HI4.2 _ l2
       cases e0
       rw[v1] at c1
       rw[v2] at c2
       obtain ⟨l3,v3,b3⟩:=HNAT.out (nat rs (x*N+y)) z b1 hlt3
       obtain ⟨l4,v4,b4⟩:=HNAT.out x (nat rs (y*N+z)) hlt b2
       obtain ⟨_,_,e0,_,c3⟩:=HI4.2 _ l3
       cases e0
       obtain ⟨_,_,e0,_,c4⟩:=HI4.2 _ l4
       cases e0
       rw[v3] at c3
       rw[v4] at c4
       rw[Nat.zero_add] at c1 c2 c3 c4
       clear v1 v2 v3 v4 HI4
       generalize nat rs (nat rs (x*N+y)*N+z)=B at c3 HMX HNZ b3
       generalize nat rs (x*N+nat rs (y*N+z))=D at c4 HMX HNZ b4
       generalize nat rs (x*N+y)=A at c1 b1 l3 c3 HNZ
       generalize nat rs (y*N+z)=C at c2 b2 l4 c4 HNZ
       have m1:(x:Int)*(N:Int)=((x*N:Nat):Int):=(Int.natCast_mul _ _).symm
       have m2:(y:Int)*(N:Int)=((y*N:Nat):Int):=(Int.natCast_mul _ _).symm
       have m3:(A:Int)*(N:Int)=((A*N:Nat):Int):=(Int.natCast_mul _ _).symm
       generalize x*N=p1 at m1 l1 c1 l4 c4
       generalize y*N=p2 at m2 l2 c2
       generalize A*N=p3 at m3 l3 c3
       have j1:(p1:Int)+(y:Int)<(nn:Int):=by omega
       have j2:(p2:Int)+(z:Int)<(nn:Int):=by omega
       have j3:(p3:Int)+(z:Int)<(nn:Int):=by omega
       have j4:(p1:Int)+(C:Int)<(nn:Int):=by omega
       by_cases hBD:B=D
       ·have hd:((B:Int) != (D:Int))=false:=by rw[hBD];simp
        have hN9:Hid (∀z',z'<z+1→grpAt N rs x y z'):=HNZ.out hBD
        clear hBD HNZ HMX hpz
        go_wp2_with fail
        refine wp_region_S (fun w'=>∃u,w'=over (wr) u) [] [(0,0),(0,1),(0,2),(0,3),(0,4),(0,5),(0,6),(0,7),(0,8),(0,9),(0,10),(0,11),(0,12),(0,13),(0,14),(0,15),(0,16),(0,17),(0,18),(0,19),(0,20),(0,21),(0,22),(0,23),(0,24),(0,25),(0,26),(0,27),(0,28),(0,29),(0,30)] (by kernel_rfl) (by kernel_rfl) (by exact ⟨_,below_over (by repeat (first|assumption|exact Below.refl _ _|refine keep_drew ?_|refine keep_alloc ?_ _|refine keep_trans ?_ (by assumption)))⟩) ?_
        dsimp only[pickOps,nthOp]
        repeat (first|(refine wpS_skip rfl (fun K hK=>?_);go_big_quiet_op;refine hK _ ?_;clear hK K)|(refine wpS_quiet rfl rfl (fun K hK=>?_);go_big_quiet_op;refine hK _ ?_;clear hK K))
        refine wpS_end ?_
        go_wp2_with fail
        go_roundw
        case rel=>exact ⟨z+1,by omega,by go_num,hb4.out.drew,hN9⟩
        case measure=>simp[intOf];omega
       ·have hd:((B:Int) != (D:Int))=true:=by simpa using (show ¬(B:Int)=(D:Int) by omega)
        have HF:=Lib.hid (HMX.out hBD)
        clear hBD HNZ HMX hpz
        go_wp2_with fail
        refine wp_region_S (fun w'=>∃u,w'=over (wr) u) [] [(0,0),(0,1),(0,2),(0,3),(0,4),(0,5),(0,6),(0,7),(0,8),(0,9),(0,10),(0,11),(0,12),(0,13),(0,14),(0,15),(0,16),(0,17),(0,18),(0,19),(0,20),(0,21),(0,22),(0,23),(0,24),(0,25),(0,26),(0,27),(0,28),(0,29),(0,30)] (by kernel_rfl) (by kernel_rfl) (by exact ⟨_,below_over (by repeat (first|assumption|exact Below.refl _ _|refine keep_drew ?_|refine keep_alloc ?_ _|refine keep_trans ?_ (by assumption)))⟩) ?_
        dsimp only[pickOps,nthOp]
        repeat (first|(refine wpS_skip rfl (fun K hK=>?_);go_big_quiet_op;refine hK _ ?_;clear hK K)|(refine wpS_quiet rfl rfl (fun K hK=>?_);go_big_quiet_op;refine hK _ ?_;clear hK K))
        refine wpS_end ?_
        go_wp2_with fail
        refine bodyPost_ret (v := .bool false) ?_ rfl ⟨by rw[HF.out],keep_trans HB1.out hb4.out.drew⟩
        simp[results,Tryz.f147,go_sem]
      ·have e:z=N:=by omega
       have hno:¬(z:Int)<(N:Int):=by omega
       have hp9:Hid (∀y',y'<y+1→∀z,z<N→grpAt N rs x y' z):=fun y' hy' z' hz'=>by
        rcases Nat.lt_or_ge y' y with e3|e3
        ·exact hpy.out y' e3 z' hz'
        ·rw[show y'=y by omega];exact hpz.out z' (by omega)
       clear e hpz
       go_wp2_with fail
       go_roundw
       case rel=>exact ⟨y+1,by omega,by go_num,hb4,hp9⟩
       case measure=>simp[intOf];omega
    ·have e:y=N:=by omega
     have hno:¬(y:Int)<(N:Int):=by omega
     have hp9:Hid (∀x',x'<x+1→∀y z,y<N→z<N→grpAt N rs x' y z):=fun x' hx' y' z' hy' hz'=>by
      rcases Nat.lt_or_ge x' x with e3|e3
      ·exact hpx.out x' e3 y' z' hy' hz'
      ·rw[show x'=x by omega];exact hpy.out y' (by omega) z' hz'
     clear e hpy
     go_wp2_with fail
     go_roundw
     case rel=>exact ⟨x+1,by omega,by go_num,hb3,hp9⟩
     case measure=>simp[intOf];omega
  ·have e:x=N:=by omega
   have hno:¬(x:Int)<(N:Int):=by omega
   have hF:=hpx.out
   rw[e] at hF
   have HF:=Lib.hid (HALL.out fun x' y' z' h1 h2 h3=>hF x' h1 y' z' h2 h3)
   clear e hF hpx
   go_wp2_with fail
   refine bodyPost_ret (v := .bool true) ?_ rfl ⟨by rw[HF.out],keep_trans HB1.out hb2.out⟩
   simp[results,Tryz.f147,go_sem]
end
end Go.Proofs.YtmfpdakaeagdpaaGreat
