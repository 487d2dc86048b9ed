/- Texts J142 to J148 of this proof, in one file. -/
import Derived.Test.YtmfpdakaeagdpaaGreatW01
import Derived.Test.YtmfpdakaeagdpaaGreatW02
import Derived.Test.YtmfpdakaeagdpaaGreatW03
import Derived.Test.YtmfpdakaeagdpaaGreatW04
import Derived.Test.YtmfpdakaeagdpaaGreatW05
import Derived.Test.YtmfpdakaeagdpaaGreatW06
import Derived.Test.YtmfpdakaeagdpaaGreatW07
import Derived.Test.YtmfpdakaeagdpaaGreatW08
import Derived.Test.YtmfpdakaeagdpaaGreatW09
import Derived.Test.YtmfpdakaeagdpaaGreatW10
import Derived.Test.YtmfpdakaeagdpaaGreatW11
import Derived.Test.YtmfpdakaeagdpaaGreatW12
import Derived.Test.YtmfpdakaeagdpaaGreatW13
import Derived.Test.YtmfpdakaeagdpaaGreatW14
import Derived.Test.YtmfpdakaeagdpaaGreatW15
import Derived.Test.YtmfpdakaeagdpaaGreatW16
import Derived.Test.YtmfpdakaeagdpaaGreatW17
import Derived.Test.YtmfpdakaeagdpaaGreatW18
import Derived.Test.YtmfpdakaeagdpaaGreatW19
import Derived.Test.YtmfpdakaeagdpaaGreatW20
import Derived.Test.YtmfpdakaeagdpaaGreatW21
import Derived.Test.YtmfpdakaeagdpaaGreatW22
import Derived.Test.YtmfpdakaeagdpaaGreatW23
import Derived.Test.YtmfpdakaeagdpaaGreatW24
import Derived.Test.YtmfpdakaeagdpaaGreatW25
import Derived.Test.YtmfpdakaeagdpaaGreatW26
import Derived.Test.YtmfpdakaeagdpaaGreatW27
import Derived.Test.YtmfpdakaeagdpaaGreatX29n01
import Derived.Test.YtmfpdakaeagdpaaGreatX29n02
import Derived.Test.YtmfpdakaeagdpaaGreatX29n03
import Derived.Below
import Derived.BigFrame
import Derived.BigQuiet
import Derived.Deep.CutBlock
import Derived.Deep.CutRange
import Derived.Deep.LoopGhost
import Derived.Deep.Quiet
import Derived.Deep.RegionHeld3
import Derived.DeepKeys4
import Derived.KernelRfl
import Derived.Laws.BitsAllLaws
import Derived.Laws.EntriesVeiled
import Derived.Lib.AppendZeros
import Derived.Lib.Hide
import Derived.Lib.SlKeysI
import Derived.Lib.SliceRun
import Derived.LoopIn
import Derived.LoopNIn
import Derived.Maps.AppendAt
import Derived.Maps.OwnIn
import Derived.Maps.OwnSet
import Derived.OneCell
import Derived.OrdersHeld
import Derived.OrdersIn
import Derived.OwnWalkIn
import Derived.RangeFuncBound
import Derived.RangeFuncBox
import Derived.RangeFuncCalls
import Derived.RangeFuncLeaves
import Derived.RangeFuncNested
import Derived.RangeFuncWrites
import Derived.Shelf.Abstract
import Derived.Shelf.SortM.Plain
import Derived.Still
import Derived.TacticsIn
import Derived.TacticsInMore
import Derived.Test.YtmfpdakaeagdpaaGreatProg
import Derived.WalkKit
import Derived.WalkLawsBesides
import Derived.WalkSpells
import Derived.WideKeyPair
namespace Go.Proofs.YtmfpdakaeagdpaaGreat
set_option maxRecDepth 100000
set_option maxHeartbeats 16000000
section
open Go Go.RowKit
attribute [local go_sem] over_cell
attribute [local go_sem] Oper.semAt_some
def isoG (n:Nat) (rows cols names cs:List Int) (k:Nat):List Int:=putAll ((List.range k).map fun c=>(nat rows (c / n)*n+nat cols (c % n),names[nat cs c]?.getD 0)) (List.replicate (n*n) 0)
theorem isoG_zero (n:Nat) (rows cols names cs:List Int):isoG n rows cols names cs 0=List.replicate (n*n) 0:=rfl
theorem isoG_succ (n:Nat) (rows cols names cs:List Int) (k:Nat):isoG n rows cols names cs (k+1)=(isoG n rows cols names cs k).set (nat rows (k / n)*n+nat cols (k % n)) (names[nat cs k]?.getD 0):=by
 unfold isoG
 rw[List.range_succ,List.map_append,List.map_singleton,putAll_snoc]
theorem isoG_end (n:Nat) (rows cols names cs:List Int):isoG n rows cols names cs (n*n)=isoL 0 n rows cols names cs:=rfl
theorem riso_c (N nn:Nat) (hnn:nn=N*N) (a:Option Addr) (ca:Nat) (cs:List Int) (aR:Option Addr) (cR:Nat) (rows:List Int) (aK:Option Addr) (cK:Nat) (cols:List Int) (aM:Option Addr) (cM:Nat) (names:List Int) (w:World)
  (h:IC w a nn cs) (L:Latin N cs) (hR:IC w aR N rows) (PR:NumL N rows) (hK:IC w aK N cols) (PK:NumL N cols) (hM:IC w aM N names) :
  Calls Tryz.prog 87 #[.agg #[.int .i64 (N:Int),.int .i64 (N:Int),.slice a nn ca],.slice aR N cR,.slice aK N cK,.slice aM N cM] w (GridR w (N:Int) nn (isoL 0 N rows cols names cs)):=by
 have hN1:=L.pos
 have hN2:=L.le
 rw[← isoG_end,← hnn]
 have hmm:nn≤256:=by rw[hnn];exact Nat.mul_le_mul hN2 hN2
 have HSQ:=Lib.hid (fun W=>rsq_c N nn hnn (by omega) W)
 have HDV:Hid (∀k,k<nn→k / N<N):=fun k hk=>Nat.div_lt_of_lt_mul (by omega)
 have HPR:=Lib.hid (fun (i:Nat) (hi:i<N)=>PR.get hi)
 have HPK:=Lib.hid (fun (i:Nat) (hi:i<N)=>PK.get hi)
 have HCS:Hid (∀k,k<nn→cs[k]?.getD 0=(nat cs k:Int)∧nat cs k<N):=fun k hk=>L.nat (by omega)
 have HGS:=Lib.hid (isoG_succ N rows cols names cs)
 have HGZ:Hid (isoG N rows cols names cs 0=List.replicate nn 0):=by unfold Hid;rw[isoG_zero,hnn]
 have HLT:Hid (∀p q,p<N→q<N→p*N+q<nn):=fun p q hp hq=>by rw[hnn];exact gcell_lt hp hq
 have hpos:1≤nn:=by rw[hnn];exact Nat.mul_pos hN1 hN1
 obtain ⟨b,off,ha,hbl,_⟩:=h.2 0 (by omega)
 have HI:=Lib.hid h
 have HRR:=Lib.hid hR
 have HKK:=Lib.hid hK
 have HMM:=Lib.hid hM
 have HBL:=Lib.hid hbl
 subst ha
 clear h hR hK hM PR PK hnn L
 have hne:(N:Int)≠0:=by omega
 go_enter Tryz.func87,Tryz.ntmps87
 go_upto_region 1 with fail
 have fsz:((w.alloc (.cells #[.int .i64 (N:Int),.int .i64 (N:Int),.slice (some ⟨b,off,none⟩) nn ca] 24)).alloc (.cells #[.int .i64 0,.int .i64 0,.slice none 0 0] 24)).heap.size=w.heap.size+2:=by simp only[World.size_alloc] <;> omega
 have fB:Below w.heap.size w ((w.alloc (.cells #[.int .i64 (N:Int),.int .i64 (N:Int),.slice (some ⟨b,off,none⟩) nn ca] 24)).alloc (.cells #[.int .i64 0,.int .i64 0,.slice none 0 0] 24)):=((Below.refl _ _).alloc (Nat.le_refl _) _).alloc (by simp only[World.size_alloc];omega) _
 have fq0:((w.alloc (.cells #[.int .i64 (N:Int),.int .i64 (N:Int),.slice (some ⟨b,off,none⟩) nn ca] 24)).alloc (.cells #[.int .i64 0,.int .i64 0,.slice none 0 0] 24)).heap[w.heap.size]?=some (.cells #[.int .i64 (N:Int),.int .i64 (N:Int),.slice (some ⟨b,off,none⟩) nn ca] 24 (0,0)):=by have h:=World.alloc_heap_new w (.cells #[.int .i64 (N:Int),.int .i64 (N:Int),.slice (some ⟨b,off,none⟩) nn ca] 24);exact (Below.heap_alloc _ _ _ (by simp only[World.size_alloc];omega)).trans (h)
 have fq1:((w.alloc (.cells #[.int .i64 (N:Int),.int .i64 (N:Int),.slice (some ⟨b,off,none⟩) nn ca] 24)).alloc (.cells #[.int .i64 0,.int .i64 0,.slice none 0 0] 24)).heap[w.heap.size+1]?=some (.cells #[.int .i64 0,.int .i64 0,.slice none 0 0] 24 (0,0)):=by have h:=World.alloc_heap_new (w.alloc (.cells #[.int .i64 (N:Int),.int .i64 (N:Int),.slice (some ⟨b,off,none⟩) nn ca] 24)) (.cells #[.int .i64 0,.int .i64 0,.slice none 0 0] 24);simp only[World.size_alloc] at h;exact h
 generalize ((w.alloc (.cells #[.int .i64 (N:Int),.int .i64 (N:Int),.slice (some ⟨b,off,none⟩) nn ca] 24)).alloc (.cells #[.int .i64 0,.int .i64 0,.slice none 0 0] 24))=W0 at fsz fB fq0 fq1 ⊢
 have Q0:=Lib.hid fq0
 have Q1:=Lib.hid fq1
 have FB:=Lib.hid fB
 obtain ⟨x0,x1,x2,xl⟩:=c3_of fq0
 have hs0:w.heap.size+2=W0.heap.size:=fsz.symm
 clear fq0 fq1 fsz fB
 go_upto_region 3 with (first|(go_at_call 101;refine (HSQ.out _).mono ?_;rintro _ w2 ⟨g,rfl,ho2,hb2⟩)|fail)
 have hg:=ho2.blk
 have ksz:(w2.alloc (.cells #[.int .i64 (N:Int),.int .i64 (N:Int),.slice (some ⟨g,0,none⟩) nn nn] 24)).heap.size=w2.heap.size+1:=by simp only[World.size_alloc]
 have kB:Below w2.heap.size w2 (w2.alloc (.cells #[.int .i64 (N:Int),.int .i64 (N:Int),.slice (some ⟨g,0,none⟩) nn nn] 24)):=(Below.refl _ _).alloc (Nat.le_refl _) _
 have kq0:(w2.alloc (.cells #[.int .i64 (N:Int),.int .i64 (N:Int),.slice (some ⟨g,0,none⟩) nn nn] 24)).heap[w2.heap.size]?=some (.cells #[.int .i64 (N:Int),.int .i64 (N:Int),.slice (some ⟨g,0,none⟩) nn nn] 24 (0,0)):=by have h:=World.alloc_heap_new w2 (.cells #[.int .i64 (N:Int),.int .i64 (N:Int),.slice (some ⟨g,0,none⟩) nn nn] 24);exact h
 generalize (w2.alloc (.cells #[.int .i64 (N:Int),.int .i64 (N:Int),.slice (some ⟨g,0,none⟩) nn nn] 24))=W3 at ksz kB kq0 ⊢
 have hb3:=keep_trans hb2 kB
 have HR:Hid (RqI w (w.heap.size+1) w2.heap.size g nn (N:Int) (isoG N rows cols names cs 0) W3):=⟨keepq hb3 Q1.out,kq0,by rw[HGZ.out];exact (ho2.keep kB).base (by omega),keep_trans FB.out hb3,by omega⟩
 have HQ:Hid (W3.heap[w.heap.size]?=_):=keepq hb3 Q0.out
 have hgb:b≠g:=by have:=HBL.out;omega
 have hgw:w.heap.size≠g:=by omega
 clear ksz kq0 kB hb2 ho2 hg hb3 x0 x1 x2 xl
 generalize w2.heap.size=b9 at HR ⊢
 go_wp2_with fail
 go_loopw [11] (fun s11 wr=>∃k:Nat,k≤nn∧s11 = .int .i64 (k:Int)∧Hid (RqI w (w.heap.size+1) b9 g nn (N:Int) (isoG N rows cols names cs k) wr)∧Hid (wr.heap[w.heap.size]?=some (.cells #[.int .i64 (N:Int),.int .i64 (N:Int),.slice (some ⟨b,off,none⟩) nn ca] 24 (0,0)))) (fun s11 _=>nn - (intOf s11).toNat)
 case atStart=>exact ⟨0,by omega,rfl,HR,HQ⟩
 case round =>
  obtain ⟨k,hk,rfl,hR,hQ⟩:=hrel
  obtain ⟨x0,x1,x2,xl⟩:=c3_of hR.out.q9
  obtain ⟨y0,y1,y2,yl⟩:=c3_of hQ.out
  by_cases hlt:k<nn
  ·have hki:(k:Int)<(nn:Int):=by omega
   obtain ⟨_,_,e0,hbw,hc⟩:=(HI.out.mono hR.out.bl).2 k hlt
   cases e0
   have e1:(k:Int) / (N:Int)=((k / N:Nat):Int):=(Int.natCast_ediv _ _).symm
   have e2:(k:Int) % (N:Int)=((k % N:Nat):Int):=(Int.natCast_emod _ _).symm
   have d1:=HDV.out k hlt
   have d2:k % N<N:=Nat.mod_lt _ (by omega)
   obtain ⟨u1,u2⟩:=HPR.out _ d1
   obtain ⟨v1,v2⟩:=HPK.out _ d2
   obtain ⟨s1,s2⟩:=HCS.out k hlt
   obtain ⟨bR,offR,rfl,hbR,hcR⟩:=(HRR.out.mono hR.out.bl).2 _ d1
   obtain ⟨bK,offK,rfl,hbK,hcK⟩:=(HKK.out.mono hR.out.bl).2 _ d2
   obtain ⟨bM,offM,rfl,hbM,hcM⟩:=(HMM.out.mono hR.out.bl).2 _ s2
   rw[u1] at hcR
   rw[v1] at hcK
   rw[s1] at hc
   have HST:=Lib.hid (HGS.out k)
   have hlt2:=HLT.out _ _ u2 v2
   obtain ⟨t0,t1,t2⟩:=hR.out.o.at hlt2
   have m1:(nat rows (k / N):Int)*(N:Int)=((nat rows (k / N)*N:Nat):Int):=(Int.natCast_mul _ _).symm
   have k1:=Lib.hid (hR.out.set (nat rows (k / N)*N+nat cols (k % N)) (names[nat cs k]?.getD 0))
   rw[← HST.out] at k1
   have k2:=Lib.hid (q_other (i:=nat rows (k / N)*N+nat cols (k % N)) hQ.out hgw (.int .i64 (names[nat cs k]?.getD 0)))
   generalize names[nat cs k]?.getD 0=X at hcM k1 k2
   generalize nat cs k=s at s2 hc hcM
   generalize (isoG N rows cols names cs k)[nat rows (k / N)*N+nat cols (k % N)]?.getD 0=ov at t0
   generalize nat cols (k % N)=v at v2 hcK hlt2 t0 t1 k1 k2
   generalize nat rows (k / N)=u at u2 hcR m1 hlt2 t0 t1 k1 k2
   generalize k / N=p at e1 d1 hcR
   generalize k % N=q at e2 d2 hcK
   generalize u*N=m at m1 hlt2 t0 t1 k1 k2
   have i1:(m:Int)+(v:Int)<(nn:Int):=by omega
   have i2:(p:Int)<(N:Int):=by omega
   have i3:(q:Int)<(N:Int):=by omega
   have i4:(s:Int)<(N:Int):=by omega
   clear HST u1 v1 s1
   go_wp2_with fail
   refine wp_region_S (fun w'=>∃u,w'=over (wr) u) [26] [(0,0),(0,1),(0,2),(0,3),(0,4),(0,5),(0,6),(0,7),(0,8),(0,9),(0,10),(0,11),(0,12),(0,13),(0,14),(0,15),(0,16),(0,17),(0,18),(0,19),(0,20),(0,21),(0,22),(0,23),(0,24),(0,25),(2,26)] (by kernel_rfl) (by kernel_rfl) (by exact ⟨_,below_over (by repeat (first|assumption|exact Below.refl _ _|refine keep_drew ?_|refine keep_alloc ?_ _|refine keep_trans ?_ (by assumption)))⟩) ?_
   dsimp only[pickOps,nthOp]
   repeat (first|(refine wpS_skip rfl (fun K hK=>?_);go_big_quiet_op;refine hK _ ?_;clear hK K)|(refine wpS_quiet rfl rfl (fun K hK=>?_);go_big_quiet_op;refine hK _ ?_;clear hK K))
   refine wpS_late _ _ _ rfl ?_
   dsimp only[List.map]
   go_wp2
   refine NoPanic.normal ?_
   go_wp2_with fail
   go_roundw
   case rel=>exact ⟨k+1,by omega,by go_num,k1.out.drew,k2.out⟩
   case measure=>simp[intOf];omega
  ·have e:k=nn:=by omega
   have hno:¬(k:Int)<(nn:Int):=by omega
   have hR9:=hR.out
   rw[e] at hR9
   clear x0 x1 x2 xl
   obtain ⟨x0,x1,x2,xl⟩:=c3_of hR9.q9
   obtain ⟨v0,v1,v2,vl⟩:=c3_of hR9.q0
   obtain ⟨vf0,vf1,vf2⟩:=f3_of hR9.q0
   obtain ⟨t0,t1,t2⟩:=hR9.fin
   obtain ⟨z0,z1,z2,zl⟩:=c3_of t0
   have T1:=Lib.hid t1
   have T2:=Lib.hid t2
   clear e hR9 hR t0 t1 t2
   go_wp2_with fail
   refine bodyPost_ret (v := .agg #[.int .i64 (N:Int),.int .i64 (N:Int),.slice (some ⟨g,0,none⟩) nn nn]) ?_ rfl ⟨g,rfl,T1.out,T2.out⟩
   simp[results,Tryz.f87,go_sem,z0,z1,z2]
end
section
open Go Go.RowKit
attribute [local go_sem] over_cell
attribute [local go_sem] Oper.semAt_some
theorem sameL_succ (k:Nat):sameL (k+1)=sameL k++[(k:Int)]:=by unfold sameL;rw[List.range_succ,List.map_append];rfl
theorem sameL_lenx (k:Nat):(sameL k).length=k:=by unfold sameL;simp
def IntsI (w:World) (xs:List Int) (e:Ending) (w':World):Prop:=∃a c,e = .returned (.slice a xs.length c)∧IC w' a xs.length xs∧Below w.heap.size w w'
theorem rident_c (N:Nat) (hN:N≤1000) (w:World):Calls Tryz.prog 153 #[.int .i64 (N:Int)] w (IntsI w (sameL N)):=by
 obtain ⟨i0,hi,hz0,hz1,hz2⟩:=info_parts infoInt
 go_enter Tryz.func153,Tryz.ntmps153
 go_wp2_with fail
 go_loopw [3,4] (fun s3 s4 wr=>∃(k:Nat) (av:Option Addr) (cv:Nat),k≤N∧s4 = .int .i64 (k:Int)∧s3 = .slice av (sameL k).length cv∧Hid (wr.ownsRow w.heap.size 3 1 (.slice av (sameL k).length cv) (sameL k).length ((sameL k).map (Value.int .i64)))∧Hid (Below w.heap.size w wr)) (fun _ s4 _=>N - (intOf s4).toNat)
 case atStart=>exact ⟨0,none,0,by omega,rfl,rfl,World.ownsRow_nil _ _ _ _,Below.refl _ _⟩
 case round =>
  obtain ⟨k,av,cv,hk,rfl,rfl,hO,hbr⟩:=hrel
  have HL:=Lib.hid (sameL_lenx k)
  have hsz:=hbr.out.size
  by_cases hlt:k<N
  ·have hki:(k:Int)<(N:Int):=by omega
   have HS:=Lib.hid (sameL_succ k)
   go_wp2_with (first|(at_builtin;refine wpList_append_ext _ rfl _ _ 22 rfl _ 3 i0 (.int .i64 0) 8 Tryz.underlying22 hi hz0 hz1 hz2 rfl (.slice av (sameL k).length cv) (sameL k).length _ rfl (hO.out.alloc _) (by rw[World.size_alloc];omega) ⟨wr.heap.size,0,none⟩ 1 1 [.int .i64 (k:Int)] rfl rfl (cell_one_new _ _ _) (by simp[Value.oneCell']) (by have:=HL.out;unfold maxLen;omega) (by have:=HL.out;omega) ?_;intro v7 w7 hown7 hst7 hx7;obtain ⟨a7,c7,rfl⟩:=owns_shape hown7)|fail)
   go_roundw
   case rel =>
    refine ⟨k+1,a7,c7,by omega,by go_num,by rw[HS.out,List.length_append,List.length_singleton],?_,hst7.below' (by rw[World.size_alloc];omega) (hbr.out.alloc hsz _) (fun k e=>(hO.out.lt k e).1)⟩
    rw[HS.out,List.length_append,List.length_singleton,List.map_append]
    exact hown7
   case measure=>simp[intOf];omega
  ·have e:k=N:=by omega
   have hki:¬(k:Int)<(N:Int):=by omega
   rw[e] at hO ⊢
   have HI:=Lib.hid (IC.of_owns hO.out (by rw[sameL_lenx];omega)).1
   clear e HL
   go_wp2_with fail
   refine bodyPost_ret (v := .slice av (sameL N).length cv) ?_ rfl ⟨av,cv,rfl,HI.out,hbr.out⟩
   simp[results,Tryz.f153,go_sem]
theorem ic_take {w:World} {a:Option Addr} {n:Nat} {xs:List Int} (h:IC w a n xs) {m:Nat} (hm:m≤n):IC w a m (xs.take m) :=
 ⟨⟨by rw[List.length_take,h.len];omega,by have:=h.small;omega⟩,fun k hk=>by
  obtain ⟨b,off,e,hl,hc⟩:=h.2 k (by omega)
  exact ⟨b,off,e,hl,by rw[List.getElem?_take_of_lt hk];exact hc⟩⟩
def colK (n:Nat) (xs:List Int) (k:Nat):List Int:=(List.range k).map fun i=>xs[i*n]?.getD 0
theorem colK_succ (n:Nat) (xs:List Int) (k:Nat):colK n xs (k+1)=colK n xs k++[xs[k*n]?.getD 0]:=by unfold colK;rw[List.range_succ,List.map_append];rfl
theorem colK_len (n:Nat) (xs:List Int) (k:Nat):(colK n xs k).length=k:=by unfold colK;simp
theorem rreduce_c (N nn:Nat) (hnn:nn=N*N) (a:Option Addr) (ca:Nat) (cs:List Int) (w:World) (h:IC w a nn cs) (hca:nn≤ca) (L:Latin N cs) :
  Calls Tryz.prog 89 #[.agg #[.int .i64 (N:Int),.int .i64 (N:Int),.slice a nn ca]] w (GridR w (N:Int) nn (reduL 0 N cs)):=by
 have hN1:=L.pos
 have hN2:=L.le
 have hmm:nn≤256:=by rw[hnn];exact Nat.mul_le_mul hN2 hN2
 have hNn:N≤nn:=by rw[hnn];exact Nat.le_mul_of_pos_left N hN1
 obtain ⟨X1,hX1⟩:∃X1,X1=isoL 0 N (sameL N) (Go.Proofs.YtmfpdakaeagdpaaGreat.rowZ N cs) (sameL N) cs:=⟨_,rfl⟩
 have L1:Latin N X1:=by rw[hX1];exact iso_latin L sameL_perm L.rowZ sameL_perm
 have hRed:reduL 0 N cs=isoL 0 N (Go.Proofs.YtmfpdakaeagdpaaGreat.colZ N X1) (sameL N) (sameL N) X1:=by unfold reduL;rw[← hX1]
 have HSN:NumL N (sameL N):=⟨sameL_lenx N,sameL_perm.num⟩
 have HI1:=Lib.hid (fun (aS:Option Addr) (cS:Nat) (aK:Option Addr) (cK:Nat) W (hb:Below w.heap.size w W) (hS:IC W aS N (sameL N)) (hK:IC W aK N (cs.take N))=>riso_c N nn hnn a ca cs aS cS (sameL N) aK cK (Go.Proofs.YtmfpdakaeagdpaaGreat.rowZ N cs) aS cS (sameL N) W (h.mono hb) L hS HSN hK ⟨L.rowZ.len,L.rowZ.num⟩ hS)
 rw[← hX1] at HI1
 have HI2:=Lib.hid (fun (g:Nat) (aS:Option Addr) (cS:Nat) (aR:Option Addr) (cR:Nat) W (hg:IC W (some ⟨g,0,none⟩) nn X1) (hS:IC W aS N (sameL N)) (hR:IC W aR N (colK N X1 N))=>riso_c N nn hnn (some ⟨g,0,none⟩) nn X1 aR cR (Go.Proofs.YtmfpdakaeagdpaaGreat.colZ N X1) aS cS (sameL N) aS cS (sameL N) W hg L1 hR ⟨L1.colZ.len,L1.colZ.num⟩ hS HSN hS)
 rw[← hRed] at HI2
 generalize reduL 0 N cs=Y at HI2 ⊢
 have HIN:=Lib.hid h
 have HID:=Lib.hid (fun W=>rident_c N (by omega) W)
 have HSL:Hid ((sameL N).length=N):=sameL_lenx N
 have HTK:Hid (((cs.take N).map (Value.int .i64)).length=N):=by unfold Hid;rw[List.length_map,List.length_take,h.len];omega
 have HTL:Hid ((cs.take N).length=N):=by unfold Hid;rw[List.length_take,h.len];omega
 have HNN:Hid (∀k,k<N→k*N<nn):=fun k hk=>by rw[hnn];exact Nat.mul_lt_mul_of_pos_right hk hN1
 obtain ⟨b,off,ha,hbl,_⟩:=h.2 0 (by omega)
 have HBL:=Lib.hid hbl
 subst ha
 obtain ⟨i0,hi,hz0,hz1,hz2⟩:=info_parts infoInt
 clear h hnn L L1 hX1 hRed
 go_enter Tryz.func89,Tryz.ntmps89
 go_upto_region 1 with fail
 have fsz:((w.alloc (.cells #[.int .i64 (N:Int),.int .i64 (N:Int),.slice (some ⟨b,off,none⟩) nn ca] 24)).alloc (.cells #[.int .i64 0,.int .i64 0,.slice none 0 0] 24)).heap.size=w.heap.size+2:=by simp only[World.size_alloc] <;> omega
 have fB:Below w.heap.size w ((w.alloc (.cells #[.int .i64 (N:Int),.int .i64 (N:Int),.slice (some ⟨b,off,none⟩) nn ca] 24)).alloc (.cells #[.int .i64 0,.int .i64 0,.slice none 0 0] 24)):=((Below.refl _ _).alloc (Nat.le_refl _) _).alloc (by simp only[World.size_alloc];omega) _
 have fq0:((w.alloc (.cells #[.int .i64 (N:Int),.int .i64 (N:Int),.slice (some ⟨b,off,none⟩) nn ca] 24)).alloc (.cells #[.int .i64 0,.int .i64 0,.slice none 0 0] 24)).heap[w.heap.size]?=some (.cells #[.int .i64 (N:Int),.int .i64 (N:Int),.slice (some ⟨b,off,none⟩) nn ca] 24 (0,0)):=by have h:=World.alloc_heap_new w (.cells #[.int .i64 (N:Int),.int .i64 (N:Int),.slice (some ⟨b,off,none⟩) nn ca] 24);exact (Below.heap_alloc _ _ _ (by simp only[World.size_alloc];omega)).trans (h)
 have fq1:((w.alloc (.cells #[.int .i64 (N:Int),.int .i64 (N:Int),.slice (some ⟨b,off,none⟩) nn ca] 24)).alloc (.cells #[.int .i64 0,.int .i64 0,.slice none 0 0] 24)).heap[w.heap.size+1]?=some (.cells #[.int .i64 0,.int .i64 0,.slice none 0 0] 24 (0,0)):=by have h:=World.alloc_heap_new (w.alloc (.cells #[.int .i64 (N:Int),.int .i64 (N:Int),.slice (some ⟨b,off,none⟩) nn ca] 24)) (.cells #[.int .i64 0,.int .i64 0,.slice none 0 0] 24);simp only[World.size_alloc] at h;exact h
 generalize ((w.alloc (.cells #[.int .i64 (N:Int),.int .i64 (N:Int),.slice (some ⟨b,off,none⟩) nn ca] 24)).alloc (.cells #[.int .i64 0,.int .i64 0,.slice none 0 0] 24))=W0 at fsz fB fq0 fq1 ⊢
 have Q0:=Lib.hid fq0
 have Q1:=Lib.hid fq1
 have FB:=Lib.hid fB
 obtain ⟨x0,x1,x2,xl⟩:=c3_of fq0
 have hs0:w.heap.size+2=W0.heap.size:=fsz.symm
 clear fq0 fq1 fsz fB
 have hNI:(N:Int)≤(ca:Int):=by omega
 go_upto_region 3 with (first|(go_at_call 153;(with_reducible refine (HID.out _).mono ?_);rintro _ w1 ⟨aS,cS,rfl,hiS,hb1⟩)|fail)
 rw[HSL.out] at hiS ⊢
 have P0:=Lib.hid (keepq hb1 Q0.out)
 have P1:=Lib.hid (keepq hb1 Q1.out)
 have HB1:=Lib.hid (keep_trans FB.out hb1)
 have HS1:=Lib.hid hiS
 have hs1:=hb1.size
 have HSRC:=Lib.hid ((ic_take (HIN.out.mono (keep_trans FB.out hb1)) hNn).src)
 clear x0 x1 x2 xl hb1 hiS
 obtain ⟨x0,x1,x2,xl⟩:=c3_of P0.out
 go_upto_region 4 with (first|(at_builtin;refine wpList_append_any _ rfl _ _ 22 rfl w1.heap.size 3 i0 (.int .i64 0) 8 Tryz.underlying22 hi hz0 hz1 hz2 rfl _ 0 [] rfl (own_emp w1 w1.heap.size 3 (Nat.le_refl _)) (by first|exact Nat.le_refl _|exact Nat.le_succ _|(simp;done)|(simp;omega)) (some ⟨b,off,none⟩) N ca ((cs.take N).map (Value.int .i64)) rfl HTK.out (src_below HSRC.out ((Below.refl w1.heap.size w1).alloc (Nat.le_refl _) (.cells #[] 3))) (ints_one _) (by unfold maxLen;omega) (by omega) ?_;intro v2 w2 hown2 hst2 hk2;rw[Nat.zero_add,List.nil_append] at hown2;have hB2:Below w1.heap.size w1 w2:=((Below.refl w1.heap.size w1).alloc (Nat.le_refl _) (.cells #[] 3)).trans (hst2.below (by first|exact Nat.le_refl _|exact Nat.le_succ _|(simp;done)|(simp;omega)) (fun q e=>by injection e with e;all_goals (first|omega|(simp at e;done)|(simp at e;omega))));obtain ⟨aK,cK,rfl⟩:=owns_shape hown2)|fail)
 have hiK:IC w2 aK N (cs.take N):=(IC.of_owns (by rw[HTL.out];exact hown2) (by rw[HTL.out];omega)).1
 have R0:=Lib.hid (keepq hB2 P0.out)
 have R1:=Lib.hid (keepq hB2 P1.out)
 have HB2:=Lib.hid (keep_trans HB1.out hB2)
 have HS2:=Lib.hid (HS1.out.mono hB2)
 have hs2:=hB2.size
 have HC1:=Lib.hid (HI1.out aS cS aK cK w2 HB2.out HS2.out hiK)
 clear x0 x1 x2 xl hB2 hown2 hst2 hk2 hiK
 obtain ⟨x0,x1,x2,xl⟩:=c3_of R0.out
 go_upto_region 5 with (first|(go_at_call 87;(with_reducible refine HC1.out.mono ?_);rintro _ w3 ⟨g,rfl,ho3,hb3⟩)|fail)
 have ksz:(w3.alloc (.cells #[.int .i64 (N:Int),.int .i64 (N:Int),.slice (some ⟨g,0,none⟩) nn nn] 24)).heap.size=w3.heap.size+1:=by simp only[World.size_alloc]
 have kB:Below w3.heap.size w3 (w3.alloc (.cells #[.int .i64 (N:Int),.int .i64 (N:Int),.slice (some ⟨g,0,none⟩) nn nn] 24)):=(Below.refl _ _).alloc (Nat.le_refl _) _
 have kq0:(w3.alloc (.cells #[.int .i64 (N:Int),.int .i64 (N:Int),.slice (some ⟨g,0,none⟩) nn nn] 24)).heap[w3.heap.size]?=some (.cells #[.int .i64 (N:Int),.int .i64 (N:Int),.slice (some ⟨g,0,none⟩) nn nn] 24 (0,0)):=by have h:=World.alloc_heap_new w3 (.cells #[.int .i64 (N:Int),.int .i64 (N:Int),.slice (some ⟨g,0,none⟩) nn nn] 24);exact h
 generalize (w3.alloc (.cells #[.int .i64 (N:Int),.int .i64 (N:Int),.slice (some ⟨g,0,none⟩) nn nn] 24))=W4 at ksz kB kq0 ⊢
 have hb34:=keep_trans hb3 kB
 have S1:=Lib.hid (keepq hb34 R1.out)
 have S6:=Lib.hid kq0
 have HB4:=Lib.hid (keep_trans HB2.out hb34)
 have HS4:=Lib.hid (HS2.out.mono hb34)
 have HG4:=Lib.hid ((ho3.keep kB).ic (by omega))
 have hs3:=hb3.size
 have hs4:w3.heap.size+1=W4.heap.size:=ksz.symm
 clear x0 x1 x2 xl hb34 hb3 kB ksz kq0 ho3 HC1
 go_wp2_with fail
 go_loopw [7,8] (fun s7 s8 wr=>∃(k:Nat) (av:Option Addr) (cv:Nat),k≤N∧s8 = .int .i64 (k:Int)∧s7 = .slice av (colK N X1 k).length cv∧Hid (wr.ownsRow W4.heap.size 3 1 (.slice av (colK N X1 k).length cv) (colK N X1 k).length ((colK N X1 k).map (Value.int .i64)))∧Hid (Below W4.heap.size W4 wr)) (fun _ s8 _=>N - (intOf s8).toNat)
 case atStart=>exact ⟨0,none,0,by omega,rfl,rfl,World.ownsRow_nil _ _ _ _,Below.refl _ _⟩
 case round =>
  obtain ⟨k,av,cv,hk,rfl,rfl,hO,hbr⟩:=hrel
  have HL:=Lib.hid (colK_len N X1 k)
  have hsz:=hbr.out.size
  obtain ⟨y0,y1,y2,yl⟩:=c3_of (keepq hbr.out S6.out)
  by_cases hlt:k<N
  ·have hki:(k:Int)<(N:Int):=by omega
   have HS:=Lib.hid (colK_succ N X1 k)
   have hlk:=HNN.out k hlt
   obtain ⟨_,_,eg,hlg,hcg⟩:=(HG4.out.mono hbr.out).2 (k*N) hlk
   cases eg
   rw[Nat.zero_add] at hcg
   have m1:(k:Int)*(N:Int)=((k*N:Nat):Int):=(Int.natCast_mul _ _).symm
   generalize X1[k*N]?.getD 0=X at hcg HS
   generalize k*N=m at m1 hlk hcg
   have hmi:(m:Int)<(nn:Int):=by omega
   go_wp2_with (first|(at_builtin;refine wpList_append_ext _ rfl _ _ 22 rfl _ 3 i0 (.int .i64 0) 8 Tryz.underlying22 hi hz0 hz1 hz2 rfl (.slice av (colK N X1 k).length cv) (colK N X1 k).length _ rfl (hO.out.alloc _) (by rw[World.size_alloc];omega) ⟨wr.heap.size,0,none⟩ 1 1 [.int .i64 X] rfl rfl (cell_one_new _ _ _) (by simp[Value.oneCell']) (by have:=HL.out;unfold maxLen;omega) (by have:=HL.out;omega) ?_;intro v7 w7 hown7 hst7 hx7;obtain ⟨a7,c7,rfl⟩:=owns_shape hown7)|fail)
   go_roundw
   case rel =>
    refine ⟨k+1,a7,c7,by omega,by go_num,by rw[HS.out,List.length_append,List.length_singleton],?_,hst7.below' (by rw[World.size_alloc];omega) (hbr.out.alloc hsz _) (fun k e=>(hO.out.lt k e).1)⟩
    rw[HS.out,List.length_append,List.length_singleton,List.map_append]
    exact hown7
   case measure=>simp[intOf];omega
  ·have e:k=N:=by omega
   have hki:¬(k:Int)<(N:Int):=by omega
   rw[e] at hO ⊢
   have hir:=(IC.of_owns hO.out (by rw[colK_len];omega)).1
   rw[colK_len] at hir ⊢
   have HC2:=Lib.hid (HI2.out g aS cS av cv wr (HG4.out.mono hbr.out) (HS4.out.mono hbr.out) hir)
   have T1:=Lib.hid (keepq hbr.out S1.out)
   have HBR:=Lib.hid (keep_trans HB4.out hbr.out)
   clear e HL hir
   go_wp2_with (first|(go_at_call 87;(with_reducible refine HC2.out.mono ?_);rintro _ w8 ⟨g8,rfl,ho8,hb8⟩;have g1:=keepq hb8 T1.out;obtain ⟨v0,v1,v2,vl⟩:=c3_of g1;obtain ⟨vf0,vf1,vf2⟩:=f3_of g1)|fail)
   have hgg:=ho8.blk.1
   have hne:g8≠w.heap.size+1:=by omega
   have o9:=((ho8.other (b:=w.heap.size+1) (i:=0) hne (.int .i64 (N:Int))).other (b:=w.heap.size+1) (i:=1) hne (.int .i64 (N:Int))).other (b:=w.heap.size+1) (i:=2) hne (.slice (some ⟨g8,0,none⟩) nn nn)
   have g3:=st3_q (x0 := .int .i64 (N:Int)) (x1 := .int .i64 (N:Int)) (x2 := .slice (some ⟨g8,0,none⟩) nn nn) g1
   have hb3:=st3_below (x0 := .int .i64 (N:Int)) (x1 := .int .i64 (N:Int)) (x2 := .slice (some ⟨g8,0,none⟩) nn nn) (b:=w.heap.size+1) (keep_trans HBR.out hb8) (by omega)
   obtain ⟨z0,z1,z2,zl⟩:=c3_of g3
   refine bodyPost_ret (v := .agg #[.int .i64 (N:Int),.int .i64 (N:Int),.slice (some ⟨g8,0,none⟩) nn nn]) ?_ rfl ⟨g8,rfl,o9.base (by omega),hb3⟩
   simp[results,Tryz.f89,go_sem,z0,z1,z2]
theorem reduL_any {n:Nat} {cs:List Int} (L:Latin n cs) (x y:Int):reduL x n cs=reduL y n cs:=by
 unfold reduL
 rw[iso_any (y:=y) sameL_perm L.rowZ]
 exact iso_any (iso_latin (x:=y) L sameL_perm L.rowZ sameL_perm).colZ sameL_perm
end
section
open Go Go.RowKit
theorem ge_of {w:World} {R:Int} {X:List Int} {er:Int} {e:Ending} {w':World} (hg:GridE w R R X er e w') (hl:X.length≤1000):∃a2 c2,e = .returned (.tuple #[.agg #[.int .i64 R,.int .i64 R,.slice a2 X.length c2],.int .i64 er])∧IC w' a2 X.length X∧Below w.heap.size w w':=by
 obtain ⟨a2,c2,he,hi,_,hb⟩:=gv_of hg hl
 exact ⟨a2,c2,he,hi,hb⟩
theorem gr_of {w:World} {n:Int} {m:Nat} {xs:List Int} {e:Ending} {w':World} (hg:GridR w n m xs e w') (hm:m≤1000):∃a2 c2,e = .returned (.agg #[.int .i64 n,.int .i64 n,.slice a2 m c2])∧(∀b2 o2,a2=some ⟨b2,o2,none⟩→w.heap.size≤b2)∧IC w' a2 m xs∧Below w.heap.size w w':=by
 obtain ⟨g,he,ho,hb⟩:=hg
 refine ⟨some ⟨g,0,none⟩,m,he,fun b2 o2 e=>?_,ho.ic (by omega),hb⟩
 injection e with e
 injection e with e1
 rw[← e1]
 exact ho.blk.1
theorem first1 (x:Int):firstL [0,x]=x:=by
 rw[firstL_z]
 by_cases hx:x=0
 ·rw[hx];rfl
 ·rw[firstL_ne hx]
theorem made_bad {er:Int} (h:er≠0):madeB 0 0 [] er 0 0 [] er=true:=by unfold madeB sameG;simp[h,sameB]
theorem made_eq (N:Int) (X:List Int):madeB N N X 0 N N X 0=true:=by unfold madeB sameG;simp[sameB]
end
section
open Go Go.RowKit
attribute [local go_sem] over_cell
attribute [local go_sem] Oper.semAt_some
theorem rprod_c (N M nn mm K kk:Nat) (hnn:nn=N*N) (hmm:mm=M*M) (hK:K=N*M) (hkk:kk=K*K) (hK16:K≤16) (a:Option Addr) (ca:Nat) (cs:List Int) (a':Option Addr) (ca':Nat) (ds:List Int) (w:World)
  (h:IC w a nn cs) (h':IC w a' mm ds) (L:Latin N cs) (L':Latin M ds) :
  Calls Tryz.prog 77 #[.agg #[.int .i64 (N:Int),.int .i64 (N:Int),.slice a nn ca],.agg #[.int .i64 (M:Int),.int .i64 (M:Int),.slice a' mm ca']] w (GridR w (K:Int) kk (proC N M cs ds)):=by
 have hN1:=L.pos
 have hN2:=L.le
 have hM1:=L'.pos
 have hM2:=L'.le
 have hnn2:nn≤256:=by rw[hnn];exact Nat.mul_le_mul hN2 hN2
 have hmm2:mm≤256:=by rw[hmm];exact Nat.mul_le_mul hM2 hM2
 have hkk2:kk≤256:=by rw[hkk];exact Nat.mul_le_mul hK16 hK16
 have hn1:1≤nn:=by rw[hnn];exact Nat.mul_pos hN1 hN1
 have hm1:1≤mm:=by rw[hmm];exact Nat.mul_pos hM1 hM1
 have hK1:1≤K:=by rw[hK];exact Nat.mul_pos hN1 hM1
 have HSQ:=Lib.hid (fun W=>rsq_c K kk hkk (by omega) W)
 have e5:(N:Int)*(M:Int)=(K:Int):=by rw[hK];exact (Int.natCast_mul _ _).symm
 have HPV:Hid (∀i j,i<K→j<K→∃X Y:Nat,i / M<N∧j / M<N∧i % M<M∧j % M<M∧i / M*N+j / M<nn∧i % M*M+j % M<mm∧cs[i / M*N+j / M]?.getD 0=(X:Int)∧X<N∧ds[i % M*M+j % M]?.getD 0=(Y:Int)∧Y<M∧M*X≤256∧proS N M cs ds i j=((M*X:Nat):Int)+(Y:Int)):=fun i j hi hj=>by
  have k1:i / M<N:=Nat.div_lt_of_lt_mul (by rw[Nat.mul_comm,← hK];exact hi)
  have k2:j / M<N:=Nat.div_lt_of_lt_mul (by rw[Nat.mul_comm,← hK];exact hj)
  have k3:i % M<M:=Nat.mod_lt _ (by omega)
  have k4:j % M<M:=Nat.mod_lt _ (by omega)
  obtain ⟨X,hX,hXN⟩:=latAt L k1 k2
  obtain ⟨Y,hY,hYM⟩:=latAt L' k3 k4
  refine ⟨X,Y,k1,k2,k3,k4,by rw[hnn];exact gcell_lt k1 k2,by rw[hmm];exact gcell_lt k3 k4,hX,hXN,hY,hYM,Nat.mul_le_mul (show M≤16 by omega) (show X≤16 by omega),?_⟩
  unfold proS
  rw[hX,hY,← Int.natCast_mul]
 have HLT:Hid (∀i j,i<K→j<K→i*K+j<kk∧i*N*M=i*K∧i*N≤256):=fun i j hi hj=>⟨by rw[hkk];exact gcell_lt hi hj,by rw[hK,Nat.mul_assoc],Nat.mul_le_mul (show i≤16 by omega) (show N≤16 by omega)⟩
 obtain ⟨b,off,ha,hbl,_⟩:=h.2 0 (by omega)
 obtain ⟨b',off',ha',hbl',_⟩:=h'.2 0 (by omega)
 have HI:=Lib.hid h
 have HI':=Lib.hid h'
 have HBL:=Lib.hid hbl
 have HBL':=Lib.hid hbl'
 subst ha ha'
 have hne:(M:Int)≠0:=by omega
 have HPC:Hid (proC N M cs ds=madeTo K (proS N M cs ds) kk):=by unfold Hid proC;rw[hkk,hK]
 have HKE:Hid (kk=K*K):=hkk
 rw[HPC.out]
 have HFZ:Hid (∀s,fillTo K s kk 0=List.replicate kk 0):=fun s=>fillTo_zero K s kk
 have HFE:Hid (∀s,fillTo K s kk (K*K)=madeTo K s kk):=fun s=>by rw[← hkk];exact fillTo_end K s kk
 have HFS:Hid (∀(s:Nat→Nat→Int) i j,i<K→j<K→(fillTo K s kk (i*K+j)).set (i*K+j) (s i j)=fillTo K s kk (i*K+j+1)):=fun s i j hi hj=>fillTo_set hj (by rw[hkk];exact gcell_lt hi hj)
 clear h h' hnn hmm hK hkk L L' hbl hbl' HPC
 generalize proS N M cs ds=s at HPV ⊢
 go_enter Tryz.func77,Tryz.ntmps77
 go_upto_region 1 with fail
 have fsz:(((w.alloc (.cells #[.int .i64 (N:Int),.int .i64 (N:Int),.slice (some ⟨b,off,none⟩) nn ca] 24)).alloc (.cells #[.int .i64 (M:Int),.int .i64 (M:Int),.slice (some ⟨b',off',none⟩) mm ca'] 24)).alloc (.cells #[.int .i64 0,.int .i64 0,.slice none 0 0] 24)).heap.size=w.heap.size+3:=by simp only[World.size_alloc] <;> omega
 have fB:Below w.heap.size w (((w.alloc (.cells #[.int .i64 (N:Int),.int .i64 (N:Int),.slice (some ⟨b,off,none⟩) nn ca] 24)).alloc (.cells #[.int .i64 (M:Int),.int .i64 (M:Int),.slice (some ⟨b',off',none⟩) mm ca'] 24)).alloc (.cells #[.int .i64 0,.int .i64 0,.slice none 0 0] 24)):=(((Below.refl _ _).alloc (Nat.le_refl _) _).alloc (by simp only[World.size_alloc];omega) _).alloc (by simp only[World.size_alloc];omega) _
 have fq0:(((w.alloc (.cells #[.int .i64 (N:Int),.int .i64 (N:Int),.slice (some ⟨b,off,none⟩) nn ca] 24)).alloc (.cells #[.int .i64 (M:Int),.int .i64 (M:Int),.slice (some ⟨b',off',none⟩) mm ca'] 24)).alloc (.cells #[.int .i64 0,.int .i64 0,.slice none 0 0] 24)).heap[w.heap.size]?=some (.cells #[.int .i64 (N:Int),.int .i64 (N:Int),.slice (some ⟨b,off,none⟩) nn ca] 24 (0,0)):=by have h:=World.alloc_heap_new w (.cells #[.int .i64 (N:Int),.int .i64 (N:Int),.slice (some ⟨b,off,none⟩) nn ca] 24);exact (Below.heap_alloc _ _ _ (by simp only[World.size_alloc];omega)).trans ((Below.heap_alloc _ _ _ (by simp only[World.size_alloc];omega)).trans (h))
 have fq1:(((w.alloc (.cells #[.int .i64 (N:Int),.int .i64 (N:Int),.slice (some ⟨b,off,none⟩) nn ca] 24)).alloc (.cells #[.int .i64 (M:Int),.int .i64 (M:Int),.slice (some ⟨b',off',none⟩) mm ca'] 24)).alloc (.cells #[.int .i64 0,.int .i64 0,.slice none 0 0] 24)).heap[w.heap.size+1]?=some (.cells #[.int .i64 (M:Int),.int .i64 (M:Int),.slice (some ⟨b',off',none⟩) mm ca'] 24 (0,0)):=by have h:=World.alloc_heap_new (w.alloc (.cells #[.int .i64 (N:Int),.int .i64 (N:Int),.slice (some ⟨b,off,none⟩) nn ca] 24)) (.cells #[.int .i64 (M:Int),.int .i64 (M:Int),.slice (some ⟨b',off',none⟩) mm ca'] 24);simp only[World.size_alloc] at h;exact (Below.heap_alloc _ _ _ (by simp only[World.size_alloc];omega)).trans (h)
 have fq2:(((w.alloc (.cells #[.int .i64 (N:Int),.int .i64 (N:Int),.slice (some ⟨b,off,none⟩) nn ca] 24)).alloc (.cells #[.int .i64 (M:Int),.int .i64 (M:Int),.slice (some ⟨b',off',none⟩) mm ca'] 24)).alloc (.cells #[.int .i64 0,.int .i64 0,.slice none 0 0] 24)).heap[w.heap.size+1+1]?=some (.cells #[.int .i64 0,.int .i64 0,.slice none 0 0] 24 (0,0)):=by have h:=World.alloc_heap_new ((w.alloc (.cells #[.int .i64 (N:Int),.int .i64 (N:Int),.slice (some ⟨b,off,none⟩) nn ca] 24)).alloc (.cells #[.int .i64 (M:Int),.int .i64 (M:Int),.slice (some ⟨b',off',none⟩) mm ca'] 24)) (.cells #[.int .i64 0,.int .i64 0,.slice none 0 0] 24);simp only[World.size_alloc] at h;exact h
 generalize (((w.alloc (.cells #[.int .i64 (N:Int),.int .i64 (N:Int),.slice (some ⟨b,off,none⟩) nn ca] 24)).alloc (.cells #[.int .i64 (M:Int),.int .i64 (M:Int),.slice (some ⟨b',off',none⟩) mm ca'] 24)).alloc (.cells #[.int .i64 0,.int .i64 0,.slice none 0 0] 24))=W0 at fsz fB fq0 fq1 fq2 ⊢
 have Q0:=Lib.hid fq0
 have Q1:=Lib.hid fq1
 have Q2:=Lib.hid fq2
 have FB:=Lib.hid fB
 obtain ⟨x0,x1,x2,xl⟩:=c3_of fq0
 obtain ⟨y0,y1,y2,yl⟩:=c3_of fq1
 have hs0:w.heap.size+3=W0.heap.size:=fsz.symm
 clear fq0 fq1 fq2 fsz fB
 refine wp_region_S (fun w'=>∃u,w'=over (W0) u) [5] [(0,0),(0,1),(0,2),(0,3),(1,4),(2,5)] (by kernel_rfl) (by kernel_rfl) (by exact ⟨_,below_over (by repeat (first|assumption|exact Below.refl _ _|refine keep_drew ?_|refine keep_alloc ?_ _|refine keep_trans ?_ (by assumption)))⟩) ?_
 dsimp only[pickOps,nthOp]
 repeat (first|(refine wpS_skip rfl (fun K hK=>?_);go_big_quiet_op;refine hK _ ?_;clear hK K)|(refine wpS_quiet rfl rfl (fun K hK=>?_);go_big_quiet_op;refine hK _ ?_;clear hK K)|(refine wpS_loud ?_;go_wp2;refine ⟨?_,?_⟩;focus (exact ⟨_,below_over (by repeat (first|assumption|exact Below.refl _ _|refine keep_drew ?_|refine keep_alloc ?_ _|refine keep_trans ?_ (by assumption)))⟩)))
 refine wpS_late _ _ _ rfl ?_
 dsimp only[List.map]
 go_wp2
 refine NoPanic.normal ?_
 go_upto_region 3 with (first|(go_at_call 101;refine (HSQ.out _).mono ?_;rintro _ w2 ⟨g,rfl,ho2,hb2⟩)|fail)
 have hg:=ho2.blk
 have ksz:(w2.alloc (.cells #[.int .i64 (K:Int),.int .i64 (K:Int),.slice (some ⟨g,0,none⟩) kk kk] 24)).heap.size=w2.heap.size+1:=by simp only[World.size_alloc]
 have kB:Below w2.heap.size w2 (w2.alloc (.cells #[.int .i64 (K:Int),.int .i64 (K:Int),.slice (some ⟨g,0,none⟩) kk kk] 24)):=(Below.refl _ _).alloc (Nat.le_refl _) _
 have kq0:(w2.alloc (.cells #[.int .i64 (K:Int),.int .i64 (K:Int),.slice (some ⟨g,0,none⟩) kk kk] 24)).heap[w2.heap.size]?=some (.cells #[.int .i64 (K:Int),.int .i64 (K:Int),.slice (some ⟨g,0,none⟩) kk kk] 24 (0,0)):=by have h:=World.alloc_heap_new w2 (.cells #[.int .i64 (K:Int),.int .i64 (K:Int),.slice (some ⟨g,0,none⟩) kk kk] 24);exact h
 generalize (w2.alloc (.cells #[.int .i64 (K:Int),.int .i64 (K:Int),.slice (some ⟨g,0,none⟩) kk kk] 24))=W3 at ksz kB kq0 ⊢
 have hb3:Below W0.heap.size W0 W3:=keep_trans (by (repeat (first|assumption|exact Below.refl _ _|refine keep_drew ?_|refine keep_alloc ?_ _|refine keep_trans ?_ (by assumption)))) kB
 have hdz:W0.drew.heap.size=W0.heap.size:=by simp
 have hw2:W0.heap.size≤w2.heap.size:=by have:=hb2.size;simpa using this
 have hg0:W0.heap.size≤g:=by have:=hg.1;simp at this;omega
 have HR:Hid (RqI w (w.heap.size+1+1) w2.heap.size g kk (K:Int) (fillTo K s kk (0*K)) W3):=⟨keepq hb3 Q2.out,kq0,by rw[Nat.zero_mul,HFZ.out];exact (ho2.keep kB).base (by omega),keep_trans FB.out hb3,by omega⟩
 have HQ:Hid (W3.heap[w.heap.size]?=_):=keepq hb3 Q0.out
 have HP:Hid (W3.heap[w.heap.size+1]?=_):=keepq hb3 Q1.out
 have hgw:w.heap.size≠g:=by omega
 have hgp:w.heap.size+1≠g:=by omega
 have hgb:b≠g:=by have:=HBL.out;omega
 have hgb':b'≠g:=by have:=HBL'.out;omega
 clear ksz kq0 kB hb2 ho2 hg hb3 x0 x1 x2 xl y0 y1 y2 yl hw2 hg0 hdz
 generalize w2.heap.size=b9 at HR ⊢
 go_wp2_with fail
 go_loopw [8,9] (fun s8 _ wr=>∃i:Nat,i≤K∧s8 = .int .i64 (i:Int)∧Hid (RqI w (w.heap.size+1+1) b9 g kk (K:Int) (fillTo K s kk (i*K)) wr)∧Hid (wr.heap[w.heap.size]?=some (.cells #[.int .i64 (N:Int),.int .i64 (N:Int),.slice (some ⟨b,off,none⟩) nn ca] 24 (0,0)))∧Hid (wr.heap[w.heap.size+1]?=some (.cells #[.int .i64 (M:Int),.int .i64 (M:Int),.slice (some ⟨b',off',none⟩) mm ca'] 24 (0,0)))) (fun s8 _ _=>K - (intOf s8).toNat)
 case atStart=>exact ⟨0,by omega,rfl,HR,HQ,HP⟩
 case round =>
  obtain ⟨i,hi,rfl,hR,hQ,hP⟩:=hrel
  by_cases hlt:i<K
  ·have hii:(i:Int)<(K:Int):=by omega
   go_wp2_with fail
   go_loopw [9] (fun s9 wr=>∃j:Nat,j≤K∧s9 = .int .i64 (j:Int)∧Hid (RqI w (w.heap.size+1+1) b9 g kk (K:Int) (fillTo K s kk (i*K+j)) wr)∧Hid (wr.heap[w.heap.size]?=some (.cells #[.int .i64 (N:Int),.int .i64 (N:Int),.slice (some ⟨b,off,none⟩) nn ca] 24 (0,0)))∧Hid (wr.heap[w.heap.size+1]?=some (.cells #[.int .i64 (M:Int),.int .i64 (M:Int),.slice (some ⟨b',off',none⟩) mm ca'] 24 (0,0)))) (fun s9 _=>K - (intOf s9).toNat)
   case atStart=>exact ⟨0,by omega,rfl,hR,hQ,hP⟩
   case round =>
    obtain ⟨j,hj,rfl,hR2,hQ2,hP2⟩:=hrel
    by_cases hlt2:j<K
    ·have hji:(j:Int)<(K:Int):=by omega
     obtain ⟨hkk3,hd3,hd4⟩:=HLT.out i j hlt hlt2
     obtain ⟨X,Y,k1,k2,k3,k4,k5,k6,hX,hXN,hY,hYM,hMX,hS⟩:=HPV.out i j hlt hlt2
     obtain ⟨_,_,e0,hbw,hc⟩:=(HI.out.mono hR2.out.bl).2 _ k5
     cases e0
     obtain ⟨_,_,e0,hbw',hc'⟩:=(HI'.out.mono hR2.out.bl).2 _ k6
     cases e0
     rw[hX] at hc
     rw[hY] at hc'
     obtain ⟨u0,u1,u2⟩:=hR2.out.o.at hkk3
     obtain ⟨x0,x1,x2,xl⟩:=c3_of hR2.out.q9
     obtain ⟨y0,y1,y2,yl⟩:=c3_of hQ2.out
     obtain ⟨z0,z1,z2,zl⟩:=c3_of hP2.out
     have t1:=Lib.hid (hR2.out.set (i*K+j) (s i j))
     rw[HFS.out s i j hlt hlt2,hS] at t1
     have t2:=Lib.hid (q_other (i:=i*K+j) hQ2.out hgw (.int .i64 (s i j)))
     have t3:=Lib.hid (q_other (i:=i*K+j) hP2.out hgp (.int .i64 (s i j)))
     rw[hS] at t2 t3
     have HT1:Hid (RqI w (w.heap.size+1+1) b9 g kk (K:Int) (fillTo K s kk (i*K+(j+1))) (wr.setCell ⟨g,i*K+j,none⟩ (.int .i64 (((M*X:Nat):Int)+(Y:Int))))):=t1
     have f1:(i:Int) / (M:Int)=((i / M:Nat):Int):=(Int.natCast_ediv _ _).symm
     have f2:(j:Int) / (M:Int)=((j / M:Nat):Int):=(Int.natCast_ediv _ _).symm
     have f3:(i:Int) % (M:Int)=((i % M:Nat):Int):=(Int.natCast_emod _ _).symm
     have f4:(j:Int) % (M:Int)=((j % M:Nat):Int):=(Int.natCast_emod _ _).symm
     have f5:(M:Int)*(X:Int)=((M*X:Nat):Int):=(Int.natCast_mul _ _).symm
     have f6:(i:Int)*(N:Int)=((i*N:Nat):Int):=(Int.natCast_mul _ _).symm
     have f7:((i*N:Nat):Int)*(M:Int)=((i*K:Nat):Int):=by rw[← Int.natCast_mul,hd3]
     have f8:((i / M:Nat):Int)*(N:Int)=((i / M*N:Nat):Int):=(Int.natCast_mul _ _).symm
     have f9:((i % M:Nat):Int)*(M:Int)=((i % M*M:Nat):Int):=(Int.natCast_mul _ _).symm
     clear hX hY hS hd3 t1
     generalize (fillTo K s kk (i*K+j))[i*K+j]?.getD 0=ov at u0
     generalize M*X=mx at f5 hMX t2 t3 HT1
     generalize i / M*N=q1 at f8 k5 hc
     generalize i % M*M=q2 at f9 k6 hc'
     generalize i*N=q3 at f6 f7 hd4
     generalize i*K=q4 at f7 hkk3 u0 u1 u2 t2 t3 HT1
     generalize i / M=p1 at f1 f8 k1
     generalize j / M=p2 at f2 k2 k5 hc
     generalize i % M=p3 at f3 f9 k3
     generalize j % M=p4 at f4 k4 k6 hc'
     have l1:(q1:Int)+(p2:Int)<(nn:Int):=by omega
     have l2:(q2:Int)+(p4:Int)<(mm:Int):=by omega
     have l3:(q4:Int)+(j:Int)<(kk:Int):=by omega
     go_wp2_with fail
     refine wp_region_S (fun w'=>∃u,w'=over (wr) u) [39] [(0,0),(0,1),(0,2),(0,3),(0,4),(0,5),(0,6),(0,7),(0,8),(0,9),(0,10),(0,11),(0,12),(0,13),(0,14),(0,15),(0,16),(0,17),(0,18),(0,19),(0,20),(0,21),(0,22),(0,23),(0,24),(0,25),(0,26),(0,27),(0,28),(0,29),(0,30),(0,31),(0,32),(0,33),(0,34),(0,35),(0,36),(0,37),(0,38),(2,39)] (by kernel_rfl) (by kernel_rfl) (by exact ⟨_,below_over (by repeat (first|assumption|exact Below.refl _ _|refine keep_drew ?_|refine keep_alloc ?_ _|refine keep_trans ?_ (by assumption)))⟩) ?_
     dsimp only[pickOps,nthOp]
     repeat (first|(refine wpS_skip rfl (fun K hK=>?_);go_big_quiet_op;refine hK _ ?_;clear hK K)|(refine wpS_quiet rfl rfl (fun K hK=>?_);go_big_quiet_op;refine hK _ ?_;clear hK K))
     refine wpS_late _ _ _ rfl ?_
     dsimp only[List.map]
     go_wp2
     refine NoPanic.normal ?_
     go_wp2_with fail
     go_roundw
     case rel=>exact ⟨j+1,by omega,by go_num,HT1.out.drew,t2.out,t3.out⟩
     case measure=>simp[intOf];omega
    ·have e:j=K:=by omega
     have HK2:Hid (RqI w (w.heap.size+1+1) b9 g kk (K:Int) (fillTo K s kk ((i+1)*K)) wr):=by have h:=hR2.out;rw[e,show i*K+K=(i+1)*K by rw[Nat.succ_mul]] at h;exact h
     have hno:¬(j:Int)<(K:Int):=by omega
     clear e
     go_wp2_with fail
     go_roundw
     case rel=>exact ⟨i+1,by omega,by go_num,HK2,hQ2,hP2⟩
     case measure=>simp[intOf];omega
  ·have e:i=K:=by omega
   have hno:¬(i:Int)<(K:Int):=by omega
   have hR9:=hR.out
   rw[e,HFE.out] at hR9
   obtain ⟨x0,x1,x2,xl⟩:=c3_of hR9.q9
   obtain ⟨y0,y1,y2,yl⟩:=c3_of hR9.q0
   obtain ⟨yf0,yf1,yf2⟩:=f3_of hR9.q0
   obtain ⟨t0,t1,t2⟩:=hR9.fin
   obtain ⟨z0,z1,z2,zl⟩:=c3_of t0
   have T1:=Lib.hid t1
   have T2:=Lib.hid t2
   clear e hR9 hR t0 t1 t2
   go_wp2_with fail
   refine bodyPost_ret (v := .agg #[.int .i64 (K:Int),.int .i64 (K:Int),.slice (some ⟨g,0,none⟩) kk kk]) ?_ rfl ⟨g,rfl,T1.out,T2.out⟩
   simp[results,Tryz.f77,go_sem,z0,z1,z2]
end
end Go.Proofs.YtmfpdakaeagdpaaGreat
