/- Texts J152 to J152 of this proof, in one file. -/
import Derived.Test.YtmfpdakaeagdpaaGreatW01
import Derived.Test.YtmfpdakaeagdpaaGreatW02
import Derived.Test.YtmfpdakaeagdpaaGreatW03
import Derived.Test.YtmfpdakaeagdpaaGreatW04
import Derived.Test.YtmfpdakaeagdpaaGreatW05
import Derived.Test.YtmfpdakaeagdpaaGreatW06
import Derived.Test.YtmfpdakaeagdpaaGreatW07
import Derived.Test.YtmfpdakaeagdpaaGreatW08
import Derived.Test.YtmfpdakaeagdpaaGreatW09
import Derived.Test.YtmfpdakaeagdpaaGreatW10
import Derived.Test.YtmfpdakaeagdpaaGreatW11
import Derived.Test.YtmfpdakaeagdpaaGreatW12
import Derived.Test.YtmfpdakaeagdpaaGreatW13
import Derived.Test.YtmfpdakaeagdpaaGreatW14
import Derived.Test.YtmfpdakaeagdpaaGreatW15
import Derived.Test.YtmfpdakaeagdpaaGreatW16
import Derived.Test.YtmfpdakaeagdpaaGreatW17
import Derived.Test.YtmfpdakaeagdpaaGreatW18
import Derived.Test.YtmfpdakaeagdpaaGreatW19
import Derived.Test.YtmfpdakaeagdpaaGreatW20
import Derived.Test.YtmfpdakaeagdpaaGreatW21
import Derived.Test.YtmfpdakaeagdpaaGreatW22
import Derived.Test.YtmfpdakaeagdpaaGreatW23
import Derived.Test.YtmfpdakaeagdpaaGreatW24
import Derived.Test.YtmfpdakaeagdpaaGreatW25
import Derived.Test.YtmfpdakaeagdpaaGreatW26
import Derived.Test.YtmfpdakaeagdpaaGreatW27
import Derived.Test.YtmfpdakaeagdpaaGreatX29n01
import Derived.Test.YtmfpdakaeagdpaaGreatX29n02
import Derived.Test.YtmfpdakaeagdpaaGreatX29n03
import Derived.Test.YtmfpdakaeagdpaaGreatX29n04
import Derived.Test.YtmfpdakaeagdpaaGreatX29n05
import Derived.Below
import Derived.BigFrame
import Derived.BigQuiet
import Derived.Deep.CutBlock
import Derived.Deep.CutRange
import Derived.Deep.LoopGhost
import Derived.Deep.Quiet
import Derived.Deep.RegionHeld3
import Derived.DeepKeys4
import Derived.KernelRfl
import Derived.Laws.BitsAllLaws
import Derived.Laws.EntriesVeiled
import Derived.Lib.AppendZeros
import Derived.Lib.Hide
import Derived.Lib.SlKeysI
import Derived.Lib.SliceRun
import Derived.LoopIn
import Derived.LoopNIn
import Derived.Maps.AppendAt
import Derived.Maps.OwnIn
import Derived.Maps.OwnSet
import Derived.OneCell
import Derived.OrdersHeld
import Derived.OrdersIn
import Derived.OwnWalkIn
import Derived.RangeFuncBound
import Derived.RangeFuncBox
import Derived.RangeFuncCalls
import Derived.RangeFuncLeaves
import Derived.RangeFuncNested
import Derived.RangeFuncWrites
import Derived.Shelf.Abstract
import Derived.Shelf.SortM.Plain
import Derived.Still
import Derived.TacticsIn
import Derived.TacticsInMore
import Derived.Test.YtmfpdakaeagdpaaGreatProg
import Derived.WalkKit
import Derived.WalkLawsBesides
import Derived.WalkSpells
import Derived.WideKeyPair
namespace Go.Proofs.YtmfpdakaeagdpaaGreat
set_option maxRecDepth 100000
set_option maxHeartbeats 16000000
section
open Go Go.RowKit
attribute [local go_sem] over_cell
attribute [local go_sem] Oper.semAt_some
def NamesE (w:World) (l:List ByteArray) (e:Ending) (w':World):Prop :=
 ∃a c,e = .returned (.slice a l.length c)∧w'.ownsRow w.heap.size 9 1 (.slice a l.length c) l.length (l.map Value.string)∧Below w.heap.size w w'
theorem allr_succ (p:Nat→Bool) (k:Nat):(List.range (k+1)).all p=((List.range k).all p&&p k):=by
 rw[List.range_succ,List.all_append];simp
theorem onceB_congr {n:Nat} {cs:List Int} {c1 c2:Nat→Int} (h:∀i,c1 i % (n:Int)=c2 i % (n:Int)):onceB n cs c1=onceB n cs c2:=by
 have hx:onceX n cs c1=onceX n cs c2:=funext fun i=>by unfold onceX;rw[h i]
 unfold onceB onceXs
 rw[hx]
theorem once_down (n:Nat) (cs:List Int) (k:Nat) (hn:1≤n) (c:Nat→Int) (hc:∀i:Nat,c i=(k:Int) - (i:Int)):onceB n cs (fun i=>((k+i*(n - 1):Nat):Int))=onceB n cs c:=onceB_congr fun i=>by
 have h1:((k+i*(n - 1):Nat):Int)=((k:Int) - (i:Int))+(i:Int)*(n:Int):=by
  have h2:((n - 1:Nat):Int)=(n:Int) - 1:=by omega
  rw[Int.natCast_add,Int.natCast_mul,h2,Int.mul_sub]
  omega
 rw[hc i]
 show ((k+i*(n - 1):Nat):Int) % (n:Int)=_
 rw[h1,Int.add_mul_emod_self_right]
theorem once_up (n:Nat) (cs:List Int) (k:Nat) (c:Nat→Int) (hc:∀i:Nat,c i=(i:Int)+(k:Int)):onceB n cs (fun i=>((k+i*1:Nat):Int))=onceB n cs c:=onceB_congr fun i=>by
 rw[hc i]
 show ((k+i*1:Nat):Int) % (n:Int)=_
 rw[Nat.mul_one,Int.natCast_add,Int.add_comm]
theorem seven_at (b0 b1 b2 b3 b4 b5 b6:Bool) {w:World} {b:Nat} {T:TypeId} (h:w.heap[b]?=some (.cells #[.bool b0,.bool b1,.bool b2,.bool b3,.bool b4,.bool b5,.bool b6] T (0,0))) {k:Nat} (hk:k<7) :
  w.cell? ⟨b,k,none⟩=some (.bool ([b0,b1,b2,b3,b4,b5,b6][k]?.getD false)):=by
 match k,hk with
 | 0,_=>exact q_cell h 0
 | 1,_=>exact q_cell h 1
 | 2,_=>exact q_cell h 2
 | 3,_=>exact q_cell h 3
 | 4,_=>exact q_cell h 4
 | 5,_=>exact q_cell h 5
 | 6,_=>exact q_cell h 6
theorem seven_str {w:World} {b:Nat} {T:TypeId} (h:w.heap[b]?=some (.cells #[.string kS0,.string kS1,.string kS2,.string kS3,.string kS4,.string kS5,.string kS6] T (0,0))) {k:Nat} (hk:k<7) :
  w.cell? ⟨b,k,none⟩=some (.string (kStr k)):=by
 match k,hk with
 | 0,_=>exact q_cell h 0
 | 1,_=>exact q_cell h 1
 | 2,_=>exact q_cell h 2
 | 3,_=>exact q_cell h 3
 | 4,_=>exact q_cell h 4
 | 5,_=>exact q_cell h 5
 | 6,_=>exact q_cell h 6
theorem rkinds_c (N nn:Nat) (hnn:nn=N*N) (a:Option Addr) (ca:Nat) (cs:List Int) (w:World) (h:IC w a nn cs) (hca:nn≤ca) (L:Latin N cs) :
  Calls Tryz.prog 78 #[.agg #[.int .i64 (N:Int),.int .i64 (N:Int),.slice a nn ca]] w (NamesE w (kNames N cs 7)):=by
 obtain ⟨i0,hi0,hz0,hz1,hz2⟩:=info_parts infoStr
 have hN1:=L.pos
 have hN2:=L.le
 have hnn2:nn≤256:=by rw[hnn];exact Nat.mul_le_mul hN2 hN2
 have hnn1:1≤nn:=by rw[hnn];exact Nat.mul_pos hN1 hN1
 have HRD:=Lib.hid (fun W (hb:Below w.heap.size w W)=>rreduce_c N nn hnn a ca cs W (h.mono hb) hca L)
 have HSM:Hid (∀W a2 c2,Below w.heap.size w W→IC W a2 nn (reduL 0 N cs)→Calls Tryz.prog 43 #[.agg #[.int .i64 (N:Int),.int .i64 (N:Int),.slice a nn ca],.agg #[.int .i64 (N:Int),.int .i64 (N:Int),.slice a2 nn c2]] W fun e w'=>e = .returned (.bool (kRed N cs))∧Below W.heap.size W w'):=fun W a2 c2 hb hi=>by
  have h9:=rsame_c (N:Int) (N:Int) a nn ca cs (N:Int) (N:Int) a2 nn c2 (reduL 0 N cs) W (h.mono hb) hi
  rw[show sameG (N:Int) (N:Int) cs (N:Int) (N:Int) (reduL 0 N cs)=kRed N cs by unfold sameG kRed;rw[reduL_any L 0 (-1)];simp[sameB]] at h9
  exact h9
 have HGP:Hid (∀W,Below w.heap.size w W→Calls Tryz.prog 147 #[.agg #[.int .i64 (N:Int),.int .i64 (N:Int),.slice a nn ca]] W fun e w'=>e = .returned (.bool (kGrp N cs))∧Below W.heap.size W w'):=fun W hb=>rgroup_c N nn hnn a ca cs W (h.mono hb) hca L
 have HO1:Hid (∀k,k<N→∀W,Below w.heap.size w W→Calls Tryz.prog 146 #[.agg #[.int .i64 (N:Int),.int .i64 (N:Int),.slice a nn ca],.int .i64 (k:Int),.int .i64 1] W fun e w'=>e = .returned (.bool (onceB N cs (fun i=>(i:Int)+(k:Int))))∧Below W.heap.size W w'):=fun k hk W hb=>by
  have h9:=rall_c N nn hnn a ca cs k 1 (by omega) (by omega) W (h.mono hb) L
  rw[once_up N cs k (fun i=>(i:Int)+(k:Int)) (fun i=>rfl)] at h9
  exact h9
 have HO2:Hid (∀k,k<N→∀W,Below w.heap.size w W→Calls Tryz.prog 146 #[.agg #[.int .i64 (N:Int),.int .i64 (N:Int),.slice a nn ca],.int .i64 (k:Int),.int .i64 ((N - 1:Nat):Int)] W fun e w'=>e = .returned (.bool (onceB N cs (fun i=>(k:Int) - (i:Int))))∧Below W.heap.size W w'):=fun k hk W hb=>by
  have h9:=rall_c N nn hnn a ca cs k (N - 1) (by omega) (by omega) W (h.mono hb) L
  rw[once_down N cs k hN1 (fun i=>(k:Int) - (i:Int)) (fun i=>rfl)] at h9
  exact h9
 have HD1:Hid (∀W,Below w.heap.size w W→Calls Tryz.prog 146 #[.agg #[.int .i64 (N:Int),.int .i64 (N:Int),.slice a nn ca],.int .i64 0,.int .i64 1] W fun e w'=>e = .returned (.bool (onceB N cs (fun i=>(i:Int))))∧Below W.heap.size W w'):=fun W hb=>by
  have h9:=rall_c N nn hnn a ca cs 0 1 (by omega) (by omega) W (h.mono hb) L
  rw[once_up N cs 0 (fun i=>(i:Int)) (fun i=>by show (i:Int)=(i:Int)+0;omega)] at h9
  exact h9
 have HD2:Hid (∀W,Below w.heap.size w W→Calls Tryz.prog 146 #[.agg #[.int .i64 (N:Int),.int .i64 (N:Int),.slice a nn ca],.int .i64 ((N - 1:Nat):Int),.int .i64 ((N - 1:Nat):Int)] W fun e w'=>e = .returned (.bool (onceB N cs (fun i=>(N:Int) - 1 - (i:Int))))∧Below W.heap.size W w'):=fun W hb=>by
  have h9:=rall_c N nn hnn a ca cs (N - 1) (N - 1) (by omega) (by omega) W (h.mono hb) L
  rw[once_down N cs (N - 1) hN1 (fun i=>(N:Int) - 1 - (i:Int)) (fun i=>by show (N:Int) - 1 - (i:Int)=((N - 1:Nat):Int) - (i:Int);omega)] at h9
  exact h9
 have e1:(N:Int) - 1=((N - 1:Nat):Int):=by omega
 have HKB:Hid (kindsB N cs=[kRed N cs,kSym N cs,kIde N cs,kUni N cs,(onceB N cs (fun i=>(i:Int))&&onceB N cs (fun i=>(N:Int) - 1 - (i:Int))),kPan N cs,kGrp N cs]):=rfl
 -- what the loop keeps
 obtain ⟨fS,hfS⟩:∃fS:Nat→Nat→Bool,fS=fun i j=>(List.range (i*N+j)).all fun k=>cs[k]?.getD 0==cs[k % N*N+k / N]?.getD 0:=⟨_,rfl⟩
 obtain ⟨fI,hfI⟩:∃fI:Nat→Bool,fI=fun k=>(List.range k).all fun i=>cs[i*N+i]?.getD 0==(i:Int):=⟨_,rfl⟩
 obtain ⟨fU,hfU⟩:∃fU:Nat→Bool,fU=fun k=>(List.range k).all fun i=>cs[i*N+i]?.getD 0==cs[0]?.getD 0:=⟨_,rfl⟩
 obtain ⟨fW,hfW⟩:∃fW:Nat→Bool,fW=fun k=>(List.range k).all fun k=>onceB N cs (fun i=>(i:Int)+(k:Int))&&onceB N cs (fun i=>(k:Int) - (i:Int)):=⟨_,rfl⟩
 have S0:Hid (fS 0 0=true):=by unfold Hid;rw[hfS];simp
 have S1:Hid (∀i j,i<N→j<N→fS i (j+1)=(fS i j&&(cs[i*N+j]?.getD 0==cs[j*N+i]?.getD 0))):=fun i j hi hj=>by
  rw[hfS]
  show (List.range (i*N+j+1)).all _=_
  rw[allr_succ,(gcell_div hj).1,(gcell_div hj).2]
 have S2:Hid (∀i,fS (i+1) 0=fS i N):=fun i=>by
  rw[hfS]
  show (List.range ((i+1)*N+0)).all _=(List.range (i*N+N)).all _
  rw[Nat.add_zero,Nat.add_mul,Nat.one_mul]
 have SE:Hid (fS N 0=kSym N cs):=by unfold Hid;rw[hfS];rfl
 have I1:Hid (∀k,fI (k+1)=(fI k&&(cs[k*N+k]?.getD 0==(k:Int)))):=fun k=>by rw[hfI];exact allr_succ _ _
 have U1:Hid (∀k,fU (k+1)=(fU k&&(cs[k*N+k]?.getD 0==cs[0]?.getD 0))):=fun k=>by rw[hfU];exact allr_succ _ _
 have W1:Hid (∀k,fW (k+1)=(fW k&&(onceB N cs (fun i=>(i:Int)+(k:Int))&&onceB N cs (fun i=>(k:Int) - (i:Int))))):=fun k=>by rw[hfW];exact allr_succ _ _
 have I0:Hid (fI 0=true):=by unfold Hid;rw[hfI];rfl
 have U0:Hid (fU 0=true):=by unfold Hid;rw[hfU];rfl
 have V0:Hid (fW 0=true):=by unfold Hid;rw[hfW];rfl
 have IE:Hid (fI N=kIde N cs):=by unfold Hid;rw[hfI];rfl
 have UE:Hid (fU N=kUni N cs):=by unfold Hid;rw[hfU];rfl
 have WE:Hid (fW N=kPan N cs):=by unfold Hid;rw[hfW];rfl
 have HLT:Hid (∀i j,i<N→j<N→i*N+j<nn):=fun i j hi hj=>by rw[hnn];exact gcell_lt hi hj
 have HKT:=Lib.hid (kindTo_succ N cs)
 have HKL:Hid (∀k,(kindTo N cs k).length≤k):=fun k=>by unfold kindTo;exact Nat.le_trans (List.length_filter_le _ _) (by simp)
 have HKN:Hid ((kNames N cs 7)=(kindTo N cs 7).map kStr):=rfl
 rw[HKN.out]
 obtain ⟨b,off,ha,hbl,hc0⟩:=h.2 0 (by omega)
 have HI:=Lib.hid h
 subst ha
 clear h hnn L hbl hc0 hfS hfI hfU hfW HKN
 generalize kindTo N cs=kt at HKT HKL ⊢
 generalize kindsB N cs=bl at HKB HKT
 generalize kRed N cs=bR at HSM HKB
 generalize kSym N cs=bS at SE HKB
 generalize kIde N cs=bI at IE HKB
 generalize kUni N cs=bU at UE HKB
 generalize kPan N cs=bP at WE HKB
 generalize kGrp N cs=bG at HGP HKB
 generalize onceB N cs (fun i=>(i:Int))=D1 at HD1 HKB
 generalize onceB N cs (fun i=>(N:Int) - 1 - (i:Int))=D2 at HD2 HKB
 obtain ⟨o1,ho1⟩:∃o1:Nat→Bool,o1=fun (k:Nat)=>onceB N cs (fun i=>(i:Int)+(k:Int)):=⟨_,rfl⟩
 obtain ⟨o2,ho2⟩:∃o2:Nat→Bool,o2=fun (k:Nat)=>onceB N cs (fun i=>(k:Int) - (i:Int)):=⟨_,rfl⟩
 have HO1:Hid (∀k,k<N→∀W,Below w.heap.size w W→Calls Tryz.prog 146 #[.agg #[.int .i64 (N:Int),.int .i64 (N:Int),.slice (some ⟨b,off,none⟩) nn ca],.int .i64 (k:Int),.int .i64 1] W fun e w'=>e = .returned (.bool (o1 k))∧Below W.heap.size W w'):=by rw[ho1];exact HO1
 have HO2:Hid (∀k,k<N→∀W,Below w.heap.size w W→Calls Tryz.prog 146 #[.agg #[.int .i64 (N:Int),.int .i64 (N:Int),.slice (some ⟨b,off,none⟩) nn ca],.int .i64 (k:Int),.int .i64 ((N - 1:Nat):Int)] W fun e w'=>e = .returned (.bool (o2 k))∧Below W.heap.size W w'):=by rw[ho2];exact HO2
 have W1:Hid (∀k,fW (k+1)=(fW k&&(o1 k&&o2 k))):=by rw[ho1,ho2];exact W1
 clear ho1 ho2
 generalize N - 1=N1 at e1 HO2 HD2
 go_enter Tryz.func78,Tryz.ntmps78
 go_upto_region 1 with fail
 have fsz:(w.alloc (.cells #[.int .i64 (N:Int),.int .i64 (N:Int),.slice (some ⟨b,off,none⟩) nn ca] 24)).heap.size=w.heap.size+1:=by simp only[World.size_alloc]
 have fB:Below w.heap.size w (w.alloc (.cells #[.int .i64 (N:Int),.int .i64 (N:Int),.slice (some ⟨b,off,none⟩) nn ca] 24)):=(Below.refl _ _).alloc (Nat.le_refl _) _
 have fq0:(w.alloc (.cells #[.int .i64 (N:Int),.int .i64 (N:Int),.slice (some ⟨b,off,none⟩) nn ca] 24)).heap[w.heap.size]?=some (.cells #[.int .i64 (N:Int),.int .i64 (N:Int),.slice (some ⟨b,off,none⟩) nn ca] 24 (0,0)):=by have h:=World.alloc_heap_new w (.cells #[.int .i64 (N:Int),.int .i64 (N:Int),.slice (some ⟨b,off,none⟩) nn ca] 24);exact h
 generalize (w.alloc (.cells #[.int .i64 (N:Int),.int .i64 (N:Int),.slice (some ⟨b,off,none⟩) nn ca] 24))=W0 at fsz fB fq0 ⊢
 have Q0:=Lib.hid fq0
 have FB:=Lib.hid fB
 obtain ⟨x0,x1,x2,xl⟩:=c3_of fq0
 clear fq0 fsz fB
 go_wp2_with fail
 go_loopw [4,5,6,7,8,9] (fun s4 s5 s6 s7 s8 _ wr=>∃(i:Nat) (b4 b5 b6 b7:Bool),i≤N∧s8 = .int .i64 (i:Int)∧s4 = .bool b4∧s5 = .bool b5∧s6 = .bool b6∧s7 = .bool b7∧Hid (b4=fS i 0)∧Hid (b5=fI i)∧Hid (b6=fU i)∧Hid (b7=fW i)∧Hid (Below W0.heap.size W0 wr)) (fun _ _ _ _ s8 _ _=>N - (intOf s8).toNat)
 case atStart=>exact ⟨0,true,true,true,true,by omega,rfl,rfl,rfl,rfl,rfl,S0.out.symm,I0.out.symm,U0.out.symm,V0.out.symm,Below.refl _ _⟩
 case round =>
  obtain ⟨i,b4,b5,b6,b7,hi,rfl,rfl,rfl,rfl,rfl,h4,h5,h6,h7,hb1⟩:=hrel
  clear x0 x1 x2 xl
  by_cases hlt:i<N
  ·have hii:(i:Int)<(N:Int):=by omega
   go_wp2_with fail
   go_loopw [4,9] (fun s4 s9 wr=>∃(j:Nat) (b4:Bool),j≤N∧s9 = .int .i64 (j:Int)∧s4 = .bool b4∧Hid (b4=fS i j)∧Hid (Below W0.heap.size W0 wr)) (fun _ s9 _=>N - (intOf s9).toNat)
   case atStart=>exact ⟨0,b4,by omega,rfl,rfl,h4,hb1⟩
   case round =>
    obtain ⟨j,b4,hj,rfl,rfl,h4,hb2⟩:=hrel
    obtain ⟨x0,x1,x2,xl⟩:=c3_of (keepq hb2.out Q0.out)
    by_cases hlt2:j<N
    ·have hji:(j:Int)<(N:Int):=by omega
     have l1:=HLT.out i j hlt hlt2
     have l2:=HLT.out j i hlt2 hlt
     have HM:=HI.out.mono (keep_trans FB.out hb2.out)
     obtain ⟨_,_,e0,hbw,c1⟩:=HM.2 _ l1
     cases e0
     obtain ⟨_,_,e0,_,c2⟩:=HM.2 _ l2
     cases e0
     have HN:=Lib.hid (S1.out i j hlt hlt2)
     rw[← h4.out] at HN
     have f1:(i:Int)*(N:Int)=((i*N:Nat):Int):=(Int.natCast_mul _ _).symm
     have f2:(j:Int)*(N:Int)=((j*N:Nat):Int):=(Int.natCast_mul _ _).symm
     clear HM h4
     generalize cs[i*N+j]?.getD 0=A at c1 HN
     generalize cs[j*N+i]?.getD 0=B at c2 HN
     generalize i*N=p at f1 l1 c1
     generalize j*N=q at f2 l2 c2
     have j1:(p:Int)+(j:Int)<(nn:Int):=by omega
     have j2:(q:Int)+(i:Int)<(nn:Int):=by omega
     cases b4 with
     | true =>
      have hN9:Hid ((A==B)=fS i (j+1)):=by unfold Hid;rw[HN.out];rfl
      clear HN
      go_upto_region 9 with fail
      refine wp_region_S (fun w'=>∃u,w'=over (wr) u) [22] [(0,0),(0,1),(0,2),(0,3),(0,4),(0,5),(0,6),(0,7),(0,8),(0,9),(0,10),(0,11),(0,12),(0,13),(0,14),(0,15),(0,16),(0,17),(0,18),(0,19),(0,20),(0,21),(2,22)] (by kernel_rfl) (by kernel_rfl) (by exact ⟨_,below_over (by repeat (first|assumption|exact Below.refl _ _|refine keep_drew ?_|refine keep_alloc ?_ _|refine keep_trans ?_ (by assumption)))⟩) ?_
      dsimp only[pickOps,nthOp]
      repeat (first|(refine wpS_skip rfl (fun K hK=>?_);go_big_quiet_op;refine hK _ ?_;clear hK K)|(refine wpS_quiet rfl rfl (fun K hK=>?_);go_big_quiet_op;refine hK _ ?_;clear hK K))
      refine wpS_late _ _ _ rfl ?_
      dsimp only[List.map]
      go_wp2
      refine NoPanic.normal ?_
      go_wp2_with fail
      go_roundw
      case rel=>exact ⟨j+1,(A==B),by omega,by go_num,rfl,hN9,hb2.out.drew⟩
      case measure=>simp[intOf];omega
     | false =>
      have hN9:Hid (false=fS i (j+1)):=by unfold Hid;rw[HN.out];rfl
      clear HN
      go_upto_region 9 with fail
      refine wp_region_S (fun w'=>∃u,w'=over (wr) u) [22] [(0,0),(0,1),(0,2),(0,3),(0,4),(0,5),(0,6),(0,7),(0,8),(0,9),(0,10),(0,11),(0,12),(0,13),(0,14),(0,15),(0,16),(0,17),(0,18),(0,19),(0,20),(0,21),(2,22)] (by kernel_rfl) (by kernel_rfl) (by exact ⟨_,below_over (by repeat (first|assumption|exact Below.refl _ _|refine keep_drew ?_|refine keep_alloc ?_ _|refine keep_trans ?_ (by assumption)))⟩) ?_
      dsimp only[pickOps,nthOp]
      repeat (first|(refine wpS_skip rfl (fun K hK=>?_);go_big_quiet_op;refine hK _ ?_;clear hK K)|(refine wpS_quiet rfl rfl (fun K hK=>?_);go_big_quiet_op;refine hK _ ?_;clear hK K))
      refine wpS_late _ _ _ rfl ?_
      dsimp only[List.map]
      go_wp2
      refine NoPanic.normal ?_
      go_wp2_with fail
      go_roundw
      case rel=>exact ⟨j+1,false,by omega,by go_num,rfl,hN9,hb2.out.drew⟩
      case measure=>simp[intOf];omega
    ·have e:j=N:=by omega
     have hno:¬(j:Int)<(N:Int):=by omega
     have hN4:Hid (b4=fS (i+1) 0):=by unfold Hid;rw[S2.out,h4.out,e]
     have l1:=HLT.out i i hlt hlt
     have HM:=HI.out.mono (keep_trans FB.out hb2.out)
     obtain ⟨_,_,e0,hbw,c1⟩:=HM.2 _ l1
     cases e0
     obtain ⟨_,_,e0,_,c2⟩:=HM.2 0 (by omega)
     cases e0
     have c3:=c2
     rw[Nat.add_zero] at c3
     have K5:=Lib.hid (I1.out i)
     have K6:=Lib.hid (U1.out i)
     have K7:=Lib.hid (W1.out i)
     rw[← h5.out] at K5
     rw[← h6.out] at K6
     rw[← h7.out] at K7
     have HP1:=Lib.hid (HO1.out i hlt)
     have HP2:=Lib.hid (HO2.out i hlt)
     have f1:(i:Int)*(N:Int)=((i*N:Nat):Int):=(Int.natCast_mul _ _).symm
     clear HM e h4 h5 h6 h7
     generalize o1 i=P1 at K7 HP1
     generalize o2 i=P2 at K7 HP2
     generalize cs[i*N+i]?.getD 0=X at c1 K5 K6
     generalize cs[0]?.getD 0=Z at c2 c3 K6
     generalize i*N=p at f1 l1 c1
     have j1:(p:Int)+(i:Int)<(nn:Int):=by omega
     have j0:(0:Int)<(nn:Int):=by omega
     have QR:=Lib.hid (keepq hb2.out Q0.out)
     have HBR:=Lib.hid (keep_trans FB.out hb2.out)
     cases b5 with
     | true =>
      have hN5:Hid ((X==(i:Int))=fI (i+1)):=by unfold Hid;rw[K5.out];rfl
      go_upto_region 11 with fail
      cases b6 with
      | true =>
       have hN6:Hid ((X==Z)=fU (i+1)):=by unfold Hid;rw[K6.out];rfl
       refine wp_region_S (fun w'=>∃u,w'=over (wr) u) [17] [(0,0),(0,1),(0,2),(0,3),(0,4),(0,5),(0,6),(0,7),(0,8),(0,9),(0,10),(0,11),(0,12),(0,13),(0,14),(0,15),(0,16),(2,17)] (by kernel_rfl) (by kernel_rfl) (by exact ⟨_,below_over (by repeat (first|assumption|exact Below.refl _ _|refine keep_drew ?_|refine keep_alloc ?_ _|refine keep_trans ?_ (by assumption)))⟩) ?_
       dsimp only[pickOps,nthOp]
       repeat (first|(refine wpS_skip rfl (fun K hK=>?_);go_big_quiet_op;refine hK _ ?_;clear hK K)|(refine wpS_quiet rfl rfl (fun K hK=>?_);go_big_quiet_op;refine hK _ ?_;clear hK K))
       refine wpS_late _ _ _ rfl ?_
       dsimp only[List.map]
       go_wp2
       refine NoPanic.normal ?_
       cases b7 with
       | true =>
        cases P1 with
        | true =>
         have hN7:Hid (P2=fW (i+1)):=by unfold Hid;rw[K7.out];first|rfl|simp
         go_wp2_with (first|(go_at_call 146;(with_reducible refine (HP1.out _ (keep_trans HBR.out (by (repeat (first|assumption|exact Below.refl _ _|refine keep_drew ?_|refine keep_alloc ?_ _|refine keep_trans ?_ (by assumption)))))).mono ?_);rintro _ w1 ⟨rfl,hbw1⟩;have hkw1:Below wr.heap.size wr w1:=(by (repeat (first|assumption|exact Below.refl _ _|refine keep_drew ?_|refine keep_alloc ?_ _|refine keep_trans ?_ (by assumption))));obtain ⟨xw10,xw11,xw12,xw1l⟩:=c3_of (keepq hkw1 QR.out))|(go_at_call 146;(with_reducible refine (HP2.out _ (keep_trans HBR.out (by (repeat (first|assumption|exact Below.refl _ _|refine keep_drew ?_|refine keep_alloc ?_ _|refine keep_trans ?_ (by assumption)))))).mono ?_);rintro _ w2 ⟨rfl,hbw2⟩;have hkw2:Below wr.heap.size wr w2:=(by (repeat (first|assumption|exact Below.refl _ _|refine keep_drew ?_|refine keep_alloc ?_ _|refine keep_trans ?_ (by assumption))));obtain ⟨xw20,xw21,xw22,xw2l⟩:=c3_of (keepq hkw2 QR.out))|fail)
         go_roundw
         case rel=>exact ⟨i+1,b4,(X==(i:Int)),(X==Z),P2,by omega,by go_num,rfl,rfl,rfl,rfl,hN4,hN5,hN6,hN7,keep_trans hb2.out (show Below wr.heap.size wr w2 by (repeat (first|assumption|exact Below.refl _ _|refine keep_drew ?_|refine keep_alloc ?_ _|refine keep_trans ?_ (by assumption))))⟩
         case measure=>simp[intOf];omega
        | false =>
         have hN7:Hid (false=fW (i+1)):=by unfold Hid;rw[K7.out];first|rfl|simp
         go_wp2_with (first|(go_at_call 146;(with_reducible refine (HP1.out _ (keep_trans HBR.out (by (repeat (first|assumption|exact Below.refl _ _|refine keep_drew ?_|refine keep_alloc ?_ _|refine keep_trans ?_ (by assumption)))))).mono ?_);rintro _ w1 ⟨rfl,hbw1⟩;have hkw1:Below wr.heap.size wr w1:=(by (repeat (first|assumption|exact Below.refl _ _|refine keep_drew ?_|refine keep_alloc ?_ _|refine keep_trans ?_ (by assumption))));obtain ⟨xw10,xw11,xw12,xw1l⟩:=c3_of (keepq hkw1 QR.out))|fail)
         go_roundw
         case rel=>exact ⟨i+1,b4,(X==(i:Int)),(X==Z),false,by omega,by go_num,rfl,rfl,rfl,rfl,hN4,hN5,hN6,hN7,keep_trans hb2.out (show Below wr.heap.size wr w1 by (repeat (first|assumption|exact Below.refl _ _|refine keep_drew ?_|refine keep_alloc ?_ _|refine keep_trans ?_ (by assumption))))⟩
         case measure=>simp[intOf];omega
       | false =>
        have hN7:Hid (false=fW (i+1)):=by unfold Hid;rw[K7.out];first|rfl|simp
        go_wp2_with (fail)
        go_roundw
        case rel=>exact ⟨i+1,b4,(X==(i:Int)),(X==Z),false,by omega,by go_num,rfl,rfl,rfl,rfl,hN4,hN5,hN6,hN7,keep_trans hb2.out (show Below wr.heap.size wr wr.drew by (repeat (first|assumption|exact Below.refl _ _|refine keep_drew ?_|refine keep_alloc ?_ _|refine keep_trans ?_ (by assumption))))⟩
        case measure=>simp[intOf];omega
      | false =>
       have hN6:Hid (false=fU (i+1)):=by unfold Hid;rw[K6.out];rfl
       refine wp_region_S (fun w'=>∃u,w'=over (wr) u) [17] [(0,0),(0,1),(0,2),(0,3),(0,4),(0,5),(0,6),(0,7),(0,8),(0,9),(0,10),(0,11),(0,12),(0,13),(0,14),(0,15),(0,16),(2,17)] (by kernel_rfl) (by kernel_rfl) (by exact ⟨_,below_over (by repeat (first|assumption|exact Below.refl _ _|refine keep_drew ?_|refine keep_alloc ?_ _|refine keep_trans ?_ (by assumption)))⟩) ?_
       dsimp only[pickOps,nthOp]
       repeat (first|(refine wpS_skip rfl (fun K hK=>?_);go_big_quiet_op;refine hK _ ?_;clear hK K)|(refine wpS_quiet rfl rfl (fun K hK=>?_);go_big_quiet_op;refine hK _ ?_;clear hK K))
       refine wpS_late _ _ _ rfl ?_
       dsimp only[List.map]
       go_wp2
       refine NoPanic.normal ?_
       cases b7 with
       | true =>
        cases P1 with
        | true =>
         have hN7:Hid (P2=fW (i+1)):=by unfold Hid;rw[K7.out];first|rfl|simp
         go_wp2_with (first|(go_at_call 146;(with_reducible refine (HP1.out _ (keep_trans HBR.out (by (repeat (first|assumption|exact Below.refl _ _|refine keep_drew ?_|refine keep_alloc ?_ _|refine keep_trans ?_ (by assumption)))))).mono ?_);rintro _ w1 ⟨rfl,hbw1⟩;have hkw1:Below wr.heap.size wr w1:=(by (repeat (first|assumption|exact Below.refl _ _|refine keep_drew ?_|refine keep_alloc ?_ _|refine keep_trans ?_ (by assumption))));obtain ⟨xw10,xw11,xw12,xw1l⟩:=c3_of (keepq hkw1 QR.out))|(go_at_call 146;(with_reducible refine (HP2.out _ (keep_trans HBR.out (by (repeat (first|assumption|exact Below.refl _ _|refine keep_drew ?_|refine keep_alloc ?_ _|refine keep_trans ?_ (by assumption)))))).mono ?_);rintro _ w2 ⟨rfl,hbw2⟩;have hkw2:Below wr.heap.size wr w2:=(by (repeat (first|assumption|exact Below.refl _ _|refine keep_drew ?_|refine keep_alloc ?_ _|refine keep_trans ?_ (by assumption))));obtain ⟨xw20,xw21,xw22,xw2l⟩:=c3_of (keepq hkw2 QR.out))|fail)
         go_roundw
         case rel=>exact ⟨i+1,b4,(X==(i:Int)),false,P2,by omega,by go_num,rfl,rfl,rfl,rfl,hN4,hN5,hN6,hN7,keep_trans hb2.out (show Below wr.heap.size wr w2 by (repeat (first|assumption|exact Below.refl _ _|refine keep_drew ?_|refine keep_alloc ?_ _|refine keep_trans ?_ (by assumption))))⟩
         case measure=>simp[intOf];omega
        | false =>
         have hN7:Hid (false=fW (i+1)):=by unfold Hid;rw[K7.out];first|rfl|simp
         go_wp2_with (first|(go_at_call 146;(with_reducible refine (HP1.out _ (keep_trans HBR.out (by (repeat (first|assumption|exact Below.refl _ _|refine keep_drew ?_|refine keep_alloc ?_ _|refine keep_trans ?_ (by assumption)))))).mono ?_);rintro _ w1 ⟨rfl,hbw1⟩;have hkw1:Below wr.heap.size wr w1:=(by (repeat (first|assumption|exact Below.refl _ _|refine keep_drew ?_|refine keep_alloc ?_ _|refine keep_trans ?_ (by assumption))));obtain ⟨xw10,xw11,xw12,xw1l⟩:=c3_of (keepq hkw1 QR.out))|fail)
         go_roundw
         case rel=>exact ⟨i+1,b4,(X==(i:Int)),false,false,by omega,by go_num,rfl,rfl,rfl,rfl,hN4,hN5,hN6,hN7,keep_trans hb2.out (show Below wr.heap.size wr w1 by (repeat (first|assumption|exact Below.refl _ _|refine keep_drew ?_|refine keep_alloc ?_ _|refine keep_trans ?_ (by assumption))))⟩
         case measure=>simp[intOf];omega
       | false =>
        have hN7:Hid (false=fW (i+1)):=by unfold Hid;rw[K7.out];first|rfl|simp
        go_wp2_with (fail)
        go_roundw
        case rel=>exact ⟨i+1,b4,(X==(i:Int)),false,false,by omega,by go_num,rfl,rfl,rfl,rfl,hN4,hN5,hN6,hN7,keep_trans hb2.out (show Below wr.heap.size wr wr.drew by (repeat (first|assumption|exact Below.refl _ _|refine keep_drew ?_|refine keep_alloc ?_ _|refine keep_trans ?_ (by assumption))))⟩
        case measure=>simp[intOf];omega
     | false =>
      have hN5:Hid (false=fI (i+1)):=by unfold Hid;rw[K5.out];rfl
      go_upto_region 11 with fail
      cases b6 with
      | true =>
       have hN6:Hid ((X==Z)=fU (i+1)):=by unfold Hid;rw[K6.out];rfl
       refine wp_region_S (fun w'=>∃u,w'=over (wr) u) [17] [(0,0),(0,1),(0,2),(0,3),(0,4),(0,5),(0,6),(0,7),(0,8),(0,9),(0,10),(0,11),(0,12),(0,13),(0,14),(0,15),(0,16),(2,17)] (by kernel_rfl) (by kernel_rfl) (by exact ⟨_,below_over (by repeat (first|assumption|exact Below.refl _ _|refine keep_drew ?_|refine keep_alloc ?_ _|refine keep_trans ?_ (by assumption)))⟩) ?_
       dsimp only[pickOps,nthOp]
       repeat (first|(refine wpS_skip rfl (fun K hK=>?_);go_big_quiet_op;refine hK _ ?_;clear hK K)|(refine wpS_quiet rfl rfl (fun K hK=>?_);go_big_quiet_op;refine hK _ ?_;clear hK K))
       refine wpS_late _ _ _ rfl ?_
       dsimp only[List.map]
       go_wp2
       refine NoPanic.normal ?_
       cases b7 with
       | true =>
        cases P1 with
        | true =>
         have hN7:Hid (P2=fW (i+1)):=by unfold Hid;rw[K7.out];first|rfl|simp
         go_wp2_with (first|(go_at_call 146;(with_reducible refine (HP1.out _ (keep_trans HBR.out (by (repeat (first|assumption|exact Below.refl _ _|refine keep_drew ?_|refine keep_alloc ?_ _|refine keep_trans ?_ (by assumption)))))).mono ?_);rintro _ w1 ⟨rfl,hbw1⟩;have hkw1:Below wr.heap.size wr w1:=(by (repeat (first|assumption|exact Below.refl _ _|refine keep_drew ?_|refine keep_alloc ?_ _|refine keep_trans ?_ (by assumption))));obtain ⟨xw10,xw11,xw12,xw1l⟩:=c3_of (keepq hkw1 QR.out))|(go_at_call 146;(with_reducible refine (HP2.out _ (keep_trans HBR.out (by (repeat (first|assumption|exact Below.refl _ _|refine keep_drew ?_|refine keep_alloc ?_ _|refine keep_trans ?_ (by assumption)))))).mono ?_);rintro _ w2 ⟨rfl,hbw2⟩;have hkw2:Below wr.heap.size wr w2:=(by (repeat (first|assumption|exact Below.refl _ _|refine keep_drew ?_|refine keep_alloc ?_ _|refine keep_trans ?_ (by assumption))));obtain ⟨xw20,xw21,xw22,xw2l⟩:=c3_of (keepq hkw2 QR.out))|fail)
         go_roundw
         case rel=>exact ⟨i+1,b4,false,(X==Z),P2,by omega,by go_num,rfl,rfl,rfl,rfl,hN4,hN5,hN6,hN7,keep_trans hb2.out (show Below wr.heap.size wr w2 by (repeat (first|assumption|exact Below.refl _ _|refine keep_drew ?_|refine keep_alloc ?_ _|refine keep_trans ?_ (by assumption))))⟩
         case measure=>simp[intOf];omega
        | false =>
         have hN7:Hid (false=fW (i+1)):=by unfold Hid;rw[K7.out];first|rfl|simp
         go_wp2_with (first|(go_at_call 146;(with_reducible refine (HP1.out _ (keep_trans HBR.out (by (repeat (first|assumption|exact Below.refl _ _|refine keep_drew ?_|refine keep_alloc ?_ _|refine keep_trans ?_ (by assumption)))))).mono ?_);rintro _ w1 ⟨rfl,hbw1⟩;have hkw1:Below wr.heap.size wr w1:=(by (repeat (first|assumption|exact Below.refl _ _|refine keep_drew ?_|refine keep_alloc ?_ _|refine keep_trans ?_ (by assumption))));obtain ⟨xw10,xw11,xw12,xw1l⟩:=c3_of (keepq hkw1 QR.out))|fail)
         go_roundw
         case rel=>exact ⟨i+1,b4,false,(X==Z),false,by omega,by go_num,rfl,rfl,rfl,rfl,hN4,hN5,hN6,hN7,keep_trans hb2.out (show Below wr.heap.size wr w1 by (repeat (first|assumption|exact Below.refl _ _|refine keep_drew ?_|refine keep_alloc ?_ _|refine keep_trans ?_ (by assumption))))⟩
         case measure=>simp[intOf];omega
       | false =>
        have hN7:Hid (false=fW (i+1)):=by unfold Hid;rw[K7.out];first|rfl|simp
        go_wp2_with (fail)
        go_roundw
        case rel=>exact ⟨i+1,b4,false,(X==Z),false,by omega,by go_num,rfl,rfl,rfl,rfl,hN4,hN5,hN6,hN7,keep_trans hb2.out (show Below wr.heap.size wr wr.drew by (repeat (first|assumption|exact Below.refl _ _|refine keep_drew ?_|refine keep_alloc ?_ _|refine keep_trans ?_ (by assumption))))⟩
        case measure=>simp[intOf];omega
      | false =>
       have hN6:Hid (false=fU (i+1)):=by unfold Hid;rw[K6.out];rfl
       refine wp_region_S (fun w'=>∃u,w'=over (wr) u) [17] [(0,0),(0,1),(0,2),(0,3),(0,4),(0,5),(0,6),(0,7),(0,8),(0,9),(0,10),(0,11),(0,12),(0,13),(0,14),(0,15),(0,16),(2,17)] (by kernel_rfl) (by kernel_rfl) (by exact ⟨_,below_over (by repeat (first|assumption|exact Below.refl _ _|refine keep_drew ?_|refine keep_alloc ?_ _|refine keep_trans ?_ (by assumption)))⟩) ?_
       dsimp only[pickOps,nthOp]
       repeat (first|(refine wpS_skip rfl (fun K hK=>?_);go_big_quiet_op;refine hK _ ?_;clear hK K)|(refine wpS_quiet rfl rfl (fun K hK=>?_);go_big_quiet_op;refine hK _ ?_;clear hK K))
       refine wpS_late _ _ _ rfl ?_
       dsimp only[List.map]
       go_wp2
       refine NoPanic.normal ?_
       cases b7 with
       | true =>
        cases P1 with
        | true =>
         have hN7:Hid (P2=fW (i+1)):=by unfold Hid;rw[K7.out];first|rfl|simp
         go_wp2_with (first|(go_at_call 146;(with_reducible refine (HP1.out _ (keep_trans HBR.out (by (repeat (first|assumption|exact Below.refl _ _|refine keep_drew ?_|refine keep_alloc ?_ _|refine keep_trans ?_ (by assumption)))))).mono ?_);rintro _ w1 ⟨rfl,hbw1⟩;have hkw1:Below wr.heap.size wr w1:=(by (repeat (first|assumption|exact Below.refl _ _|refine keep_drew ?_|refine keep_alloc ?_ _|refine keep_trans ?_ (by assumption))));obtain ⟨xw10,xw11,xw12,xw1l⟩:=c3_of (keepq hkw1 QR.out))|(go_at_call 146;(with_reducible refine (HP2.out _ (keep_trans HBR.out (by (repeat (first|assumption|exact Below.refl _ _|refine keep_drew ?_|refine keep_alloc ?_ _|refine keep_trans ?_ (by assumption)))))).mono ?_);rintro _ w2 ⟨rfl,hbw2⟩;have hkw2:Below wr.heap.size wr w2:=(by (repeat (first|assumption|exact Below.refl _ _|refine keep_drew ?_|refine keep_alloc ?_ _|refine keep_trans ?_ (by assumption))));obtain ⟨xw20,xw21,xw22,xw2l⟩:=c3_of (keepq hkw2 QR.out))|fail)
         go_roundw
         case rel=>exact ⟨i+1,b4,false,false,P2,by omega,by go_num,rfl,rfl,rfl,rfl,hN4,hN5,hN6,hN7,keep_trans hb2.out (show Below wr.heap.size wr w2 by (repeat (first|assumption|exact Below.refl _ _|refine keep_drew ?_|refine keep_alloc ?_ _|refine keep_trans ?_ (by assumption))))⟩
         case measure=>simp[intOf];omega
        | false =>
         have hN7:Hid (false=fW (i+1)):=by unfold Hid;rw[K7.out];first|rfl|simp
         go_wp2_with (first|(go_at_call 146;(with_reducible refine (HP1.out _ (keep_trans HBR.out (by (repeat (first|assumption|exact Below.refl _ _|refine keep_drew ?_|refine keep_alloc ?_ _|refine keep_trans ?_ (by assumption)))))).mono ?_);rintro _ w1 ⟨rfl,hbw1⟩;have hkw1:Below wr.heap.size wr w1:=(by (repeat (first|assumption|exact Below.refl _ _|refine keep_drew ?_|refine keep_alloc ?_ _|refine keep_trans ?_ (by assumption))));obtain ⟨xw10,xw11,xw12,xw1l⟩:=c3_of (keepq hkw1 QR.out))|fail)
         go_roundw
         case rel=>exact ⟨i+1,b4,false,false,false,by omega,by go_num,rfl,rfl,rfl,rfl,hN4,hN5,hN6,hN7,keep_trans hb2.out (show Below wr.heap.size wr w1 by (repeat (first|assumption|exact Below.refl _ _|refine keep_drew ?_|refine keep_alloc ?_ _|refine keep_trans ?_ (by assumption))))⟩
         case measure=>simp[intOf];omega
       | false =>
        have hN7:Hid (false=fW (i+1)):=by unfold Hid;rw[K7.out];first|rfl|simp
        go_wp2_with (fail)
        go_roundw
        case rel=>exact ⟨i+1,b4,false,false,false,by omega,by go_num,rfl,rfl,rfl,rfl,hN4,hN5,hN6,hN7,keep_trans hb2.out (show Below wr.heap.size wr wr.drew by (repeat (first|assumption|exact Below.refl _ _|refine keep_drew ?_|refine keep_alloc ?_ _|refine keep_trans ?_ (by assumption))))⟩
        case measure=>simp[intOf];omega
  ·have e:i=N:=by omega
   have hno:¬(i:Int)<(N:Int):=by omega
   have hS:b4=bS:=by rw[h4.out,e,SE.out]
   have hI:b5=bI:=by rw[h5.out,e,IE.out]
   have hU:b6=bU:=by rw[h6.out,e,UE.out]
   have hW:b7=bP:=by rw[h7.out,e,WE.out]
   subst hS hI hU hW
   have QR:=Lib.hid (keepq hb1.out Q0.out)
   have HBR:=Lib.hid (keep_trans FB.out hb1.out)
   obtain ⟨x0,x1,x2,xl⟩:=c3_of QR.out
   clear e h4 h5 h6 h7 SE IE UE WE S0 S1 S2 I0 I1 U0 U1 V0 W1 HO1 HO2
   go_upto_region 13 with fail
   cases D1 with
   | true =>
    refine wp_region_S (fun w'=>∃u,w'=over (wr) u) [21,20] [(0,0),(0,1),(0,4),(0,5),(0,6),(0,7),(0,17),(0,18),(1,2),(1,3),(1,8),(0,9),(0,10),(0,11),(0,12),(0,13),(0,14),(1,15),(0,16),(1,19),(2,20),(2,21)] (by kernel_rfl) (by kernel_rfl) (by exact ⟨_,below_over (by repeat (first|assumption|exact Below.refl _ _|refine keep_drew ?_|refine keep_alloc ?_ _|refine keep_trans ?_ (by assumption)))⟩) ?_
    dsimp only[pickOps,nthOp]
    repeat (first|(refine wpS_skip rfl (fun K hK=>?_);go_big_quiet_op;refine hK _ ?_;clear hK K)|(refine wpS_quiet rfl rfl (fun K hK=>?_);go_big_quiet_op;refine hK _ ?_;clear hK K)|(refine wpS_loud ?_;go_wp2_with (first|(go_at_call 89;(with_reducible refine (HRD.out _ (keep_trans HBR.out (by (repeat (first|assumption|exact Below.refl _ _|refine keep_drew ?_|refine keep_alloc ?_ _|refine keep_trans ?_ (by assumption)))))).mono ?_);rintro _ v1 ⟨g,rfl,ho,hbv1⟩;have hkv1:Below wr.heap.size wr v1:=(by (repeat (first|assumption|exact Below.refl _ _|refine keep_drew ?_|refine keep_alloc ?_ _|refine keep_trans ?_ (by assumption))));obtain ⟨xv10,xv11,xv12,xv1l⟩:=c3_of (keepq hkv1 QR.out);have HIG:=ho.ic (by omega))|(go_at_call 43;(with_reducible refine (HSM.out _ _ _ (keep_trans HBR.out (by (repeat (first|assumption|exact Below.refl _ _|refine keep_drew ?_|refine keep_alloc ?_ _|refine keep_trans ?_ (by assumption))))) (HIG.mono (by (repeat (first|assumption|exact Below.refl _ _|refine keep_drew ?_|refine keep_alloc ?_ _|refine keep_trans ?_ (by assumption)))))).mono ?_);rintro _ v2 ⟨rfl,hbv2⟩;have hkv2:Below wr.heap.size wr v2:=(by (repeat (first|assumption|exact Below.refl _ _|refine keep_drew ?_|refine keep_alloc ?_ _|refine keep_trans ?_ (by assumption))));obtain ⟨xv20,xv21,xv22,xv2l⟩:=c3_of (keepq hkv2 QR.out))|(go_at_call 146;(with_reducible refine (HD1.out _ (keep_trans HBR.out (by (repeat (first|assumption|exact Below.refl _ _|refine keep_drew ?_|refine keep_alloc ?_ _|refine keep_trans ?_ (by assumption)))))).mono ?_);rintro _ v3 ⟨rfl,hbv3⟩;have hkv3:Below wr.heap.size wr v3:=(by (repeat (first|assumption|exact Below.refl _ _|refine keep_drew ?_|refine keep_alloc ?_ _|refine keep_trans ?_ (by assumption))));obtain ⟨xv30,xv31,xv32,xv3l⟩:=c3_of (keepq hkv3 QR.out))|(go_at_call 146;(with_reducible refine (HD2.out _ (keep_trans HBR.out (by (repeat (first|assumption|exact Below.refl _ _|refine keep_drew ?_|refine keep_alloc ?_ _|refine keep_trans ?_ (by assumption)))))).mono ?_);rintro _ v4 ⟨rfl,hbv4⟩;have hkv4:Below wr.heap.size wr v4:=(by (repeat (first|assumption|exact Below.refl _ _|refine keep_drew ?_|refine keep_alloc ?_ _|refine keep_trans ?_ (by assumption))));obtain ⟨xv40,xv41,xv42,xv4l⟩:=c3_of (keepq hkv4 QR.out))|(go_at_call 147;(with_reducible refine (HGP.out _ (keep_trans HBR.out (by (repeat (first|assumption|exact Below.refl _ _|refine keep_drew ?_|refine keep_alloc ?_ _|refine keep_trans ?_ (by assumption)))))).mono ?_);rintro _ v5 ⟨rfl,hbv5⟩;have hkv5:Below wr.heap.size wr v5:=(by (repeat (first|assumption|exact Below.refl _ _|refine keep_drew ?_|refine keep_alloc ?_ _|refine keep_trans ?_ (by assumption))));obtain ⟨xv50,xv51,xv52,xv5l⟩:=c3_of (keepq hkv5 QR.out))|fail);refine ⟨?_,?_⟩;focus (exact ⟨_,below_over (by repeat (first|assumption|exact Below.refl _ _|refine keep_drew ?_|refine keep_alloc ?_ _|refine keep_trans ?_ (by assumption)))⟩)))
    refine wpS_late _ _ _ rfl ?_
    dsimp only[List.map]
    go_wp2_with (first|(go_at_call 89;(with_reducible refine (HRD.out _ (keep_trans HBR.out (by (repeat (first|assumption|exact Below.refl _ _|refine keep_drew ?_|refine keep_alloc ?_ _|refine keep_trans ?_ (by assumption)))))).mono ?_);rintro _ v1 ⟨g,rfl,ho,hbv1⟩;have hkv1:Below wr.heap.size wr v1:=(by (repeat (first|assumption|exact Below.refl _ _|refine keep_drew ?_|refine keep_alloc ?_ _|refine keep_trans ?_ (by assumption))));obtain ⟨xv10,xv11,xv12,xv1l⟩:=c3_of (keepq hkv1 QR.out);have HIG:=ho.ic (by omega))|(go_at_call 43;(with_reducible refine (HSM.out _ _ _ (keep_trans HBR.out (by (repeat (first|assumption|exact Below.refl _ _|refine keep_drew ?_|refine keep_alloc ?_ _|refine keep_trans ?_ (by assumption))))) (HIG.mono (by (repeat (first|assumption|exact Below.refl _ _|refine keep_drew ?_|refine keep_alloc ?_ _|refine keep_trans ?_ (by assumption)))))).mono ?_);rintro _ v2 ⟨rfl,hbv2⟩;have hkv2:Below wr.heap.size wr v2:=(by (repeat (first|assumption|exact Below.refl _ _|refine keep_drew ?_|refine keep_alloc ?_ _|refine keep_trans ?_ (by assumption))));obtain ⟨xv20,xv21,xv22,xv2l⟩:=c3_of (keepq hkv2 QR.out))|(go_at_call 146;(with_reducible refine (HD1.out _ (keep_trans HBR.out (by (repeat (first|assumption|exact Below.refl _ _|refine keep_drew ?_|refine keep_alloc ?_ _|refine keep_trans ?_ (by assumption)))))).mono ?_);rintro _ v3 ⟨rfl,hbv3⟩;have hkv3:Below wr.heap.size wr v3:=(by (repeat (first|assumption|exact Below.refl _ _|refine keep_drew ?_|refine keep_alloc ?_ _|refine keep_trans ?_ (by assumption))));obtain ⟨xv30,xv31,xv32,xv3l⟩:=c3_of (keepq hkv3 QR.out))|(go_at_call 146;(with_reducible refine (HD2.out _ (keep_trans HBR.out (by (repeat (first|assumption|exact Below.refl _ _|refine keep_drew ?_|refine keep_alloc ?_ _|refine keep_trans ?_ (by assumption)))))).mono ?_);rintro _ v4 ⟨rfl,hbv4⟩;have hkv4:Below wr.heap.size wr v4:=(by (repeat (first|assumption|exact Below.refl _ _|refine keep_drew ?_|refine keep_alloc ?_ _|refine keep_trans ?_ (by assumption))));obtain ⟨xv40,xv41,xv42,xv4l⟩:=c3_of (keepq hkv4 QR.out))|(go_at_call 147;(with_reducible refine (HGP.out _ (keep_trans HBR.out (by (repeat (first|assumption|exact Below.refl _ _|refine keep_drew ?_|refine keep_alloc ?_ _|refine keep_trans ?_ (by assumption)))))).mono ?_);rintro _ v5 ⟨rfl,hbv5⟩;have hkv5:Below wr.heap.size wr v5:=(by (repeat (first|assumption|exact Below.refl _ _|refine keep_drew ?_|refine keep_alloc ?_ _|refine keep_trans ?_ (by assumption))));obtain ⟨xv50,xv51,xv52,xv5l⟩:=c3_of (keepq hkv5 QR.out))|fail)
    refine NoPanic.normal ?_
    have hq9:=World.alloc_heap_new v5 (.cells #[.bool bR,.bool b4,.bool b5,.bool b6,.bool D2,.bool b7,.bool bG] 4)
    have hb9:Below wr.heap.size wr (v5.alloc (.cells #[.bool bR,.bool b4,.bool b5,.bool b6,.bool D2,.bool b7,.bool bG] 4)):=keep_alloc (by (repeat (first|assumption|exact Below.refl _ _|refine keep_drew ?_|refine keep_alloc ?_ _|refine keep_trans ?_ (by assumption)))) _
    have HKB9:Hid (bl=[bR,b4,b5,b6,D2,b7,bG]):=HKB
    have HQ9:Hid ((v5.alloc (.cells #[.bool bR,.bool b4,.bool b5,.bool b6,.bool D2,.bool b7,.bool bG] 4)).heap[v5.heap.size]?=some (.cells #[.bool bR,.bool b4,.bool b5,.bool b6,.bool D2,.bool b7,.bool bG] 4 (0,0))):=hq9
    have HB9:=Lib.hid (keep_trans HBR.out hb9)
    clear xv10 xv11 xv12 xv1l hkv1 hbv1 xv20 xv21 xv22 xv2l hkv2 hbv2 xv30 xv31 xv32 xv3l hkv3 hbv3 xv40 xv41 xv42 xv4l hkv4 hbv4 xv50 xv51 xv52 xv5l hkv5 hbv5 x0 x1 x2 xl HIG ho hq9 hb9 HRD HSM HGP HD1 HD2 HKB
    generalize v5.heap.size=b9 at HQ9 ⊢
    generalize (v5.alloc (.cells #[.bool bR,.bool b4,.bool b5,.bool b6,.bool D2,.bool b7,.bool bG] 4))=V9 at HQ9 HB9 ⊢
    go_upto_region 15 with fail
    have hqs:=World.alloc_heap_new V9 (.cells #[.string ⟨#[114,101,100,117,99,101,100]⟩,.string ⟨#[115,121,109,109,101,116,114,105,99]⟩,.string ⟨#[105,100,101,109,112,111,116,101,110,116]⟩,.string ⟨#[117,110,105,112,111,116,101,110,116]⟩,.string ⟨#[100,105,97,103,111,110,97,108]⟩,.string ⟨#[112,97,110,100,105,97,103,111,110,97,108]⟩,.string ⟨#[103,114,111,117,112]⟩] 9)
    have hbs:Below V9.heap.size V9 (V9.alloc (.cells #[.string ⟨#[114,101,100,117,99,101,100]⟩,.string ⟨#[115,121,109,109,101,116,114,105,99]⟩,.string ⟨#[105,100,101,109,112,111,116,101,110,116]⟩,.string ⟨#[117,110,105,112,111,116,101,110,116]⟩,.string ⟨#[100,105,97,103,111,110,97,108]⟩,.string ⟨#[112,97,110,100,105,97,103,111,110,97,108]⟩,.string ⟨#[103,114,111,117,112]⟩] 9)):=keep_alloc (Below.refl _ _) _
    have HQA:=Lib.hid (keepq hbs HQ9.out)
    have HQS:Hid ((V9.alloc (.cells #[.string ⟨#[114,101,100,117,99,101,100]⟩,.string ⟨#[115,121,109,109,101,116,114,105,99]⟩,.string ⟨#[105,100,101,109,112,111,116,101,110,116]⟩,.string ⟨#[117,110,105,112,111,116,101,110,116]⟩,.string ⟨#[100,105,97,103,111,110,97,108]⟩,.string ⟨#[112,97,110,100,105,97,103,111,110,97,108]⟩,.string ⟨#[103,114,111,117,112]⟩] 9)).heap[V9.heap.size]?=some (.cells #[.string kS0,.string kS1,.string kS2,.string kS3,.string kS4,.string kS5,.string kS6] 9 (0,0))):=hqs
    have HBA:=Lib.hid (keep_trans HB9.out hbs)
    clear hqs hbs HQ9 HB9
    generalize V9.heap.size=bs at HQS ⊢
    generalize (V9.alloc (.cells #[.string ⟨#[114,101,100,117,99,101,100]⟩,.string ⟨#[115,121,109,109,101,116,114,105,99]⟩,.string ⟨#[105,100,101,109,112,111,116,101,110,116]⟩,.string ⟨#[117,110,105,112,111,116,101,110,116]⟩,.string ⟨#[100,105,97,103,111,110,97,108]⟩,.string ⟨#[112,97,110,100,105,97,103,111,110,97,108]⟩,.string ⟨#[103,114,111,117,112]⟩] 9))=VA at HQA HQS HBA ⊢
    go_wp2_with fail
    go_loopw [12,13] (fun s12 s13 wr=>∃k:Nat,k≤7∧s13 = .int .i64 (k:Int)∧Hid (Below VA.heap.size VA wr)∧Hid (wr.ownsRow VA.heap.size 9 1 s12 (kt k).length ((kt k).map fun i => .string (kStr i)))) (fun _ s13 _=>7 - (intOf s13).toNat)
    case atStart =>
     have h0:kt 0=[]:=List.length_eq_zero_iff.1 (Nat.le_zero.1 (HKL.out 0))
     exact ⟨0,by omega,rfl,Below.refl _ _,by unfold Hid;rw[h0];exact World.ownsRow_nil _ _ _ _⟩
    case round =>
     obtain ⟨k,hk,rfl,hB,hO⟩:=hrel
     obtain ⟨av,cv,hs5⟩:=owns_shape hO.out
     subst hs5
     by_cases hlt9:k<7
     ·have hki:(k:Int)<7:=by omega
      have y0:=seven_at _ _ _ _ _ _ _ (keepq hB.out HQA.out) hlt9
      have z0:=seven_str (keepq hB.out HQS.out) hlt9
      have yl:=q_lt (keepq hB.out HQA.out)
      have zl:=q_lt (keepq hB.out HQS.out)
      rw[← HKB9.out] at y0
      have HT:=Lib.hid (HKT.out k)
      have hlen:=HKL.out k
      have hsz:=hB.out.size
      generalize bl[k]?.getD false=bb at y0 HT
      cases bb with
      | true =>
       go_wp2_with (first|(at_builtin;refine wpList_append_any _ rfl _ _ 84 rfl VA.heap.size 9 i0 (.string ⟨#[]⟩) 16 Tryz.underlying84 hi0 hz0 hz1 hz2 rfl _ _ _ rfl (hO.out.alloc _) (by simp only[World.size_alloc];omega) _ _ _ [.string (kStr k)] rfl rfl (.inl ⟨_,rfl,cell_one_new _ _ _⟩) (by simp[Value.oneCell']) (by unfold maxLen;omega) (by omega) ?_;intro v7 w7 hown7 hst7 hk7;have hb7:=hst7.below' (B:=VA.heap.size) (w0:=VA) (by simp only[World.size_alloc];omega) (hB.out.alloc hsz _) (fun j e=>(hO.out.lt j e).1))|fail)
       go_roundw
       case rel=>exact ⟨k+1,by omega,by go_num,hb7,by unfold Hid;rw[HT.out,if_pos rfl,List.length_append,List.map_append];exact hown7⟩
       case measure=>simp[intOf];omega
      | false =>
       go_wp2_with fail
       go_roundw
       case rel=>exact ⟨k+1,by omega,by go_num,hB,by unfold Hid;rw[HT.out,if_neg (by simp)];exact hO.out⟩
       case measure=>simp[intOf];omega
     ·have e:k=7:=by omega
      have hno:¬(k:Int)<7:=by omega
      have hO9:wr.ownsRow w.heap.size 9 1 (.slice av ((kt 7).map kStr).length cv) ((kt 7).map kStr).length (((kt 7).map kStr).map Value.string):=by
       rw[e] at hO
       have:=owns_base hO.out (show w.heap.size≤VA.heap.size from HBA.out.size)
       rw[List.length_map,List.map_map]
       exact this
      have hl:(kt k).length=((kt 7).map kStr).length:=by rw[e];simp
      rw[hl]
      have HO9:=Lib.hid hO9
      clear hO9 hO hl e
      go_wp2_with fail
      refine bodyPost_ret (v := .slice av ((kt 7).map kStr).length cv) ?_ rfl ⟨av,cv,rfl,HO9.out,keep_trans HBA.out hB.out⟩
      simp[results,Tryz.f78,go_sem]
   | false =>
    refine wp_region_S (fun w'=>∃u,w'=over (wr) u) [21,20] [(0,0),(0,1),(0,4),(0,5),(0,6),(0,7),(0,17),(0,18),(1,2),(1,3),(1,8),(0,9),(0,10),(0,11),(0,12),(0,13),(0,14),(1,15),(0,16),(1,19),(2,20),(2,21)] (by kernel_rfl) (by kernel_rfl) (by exact ⟨_,below_over (by repeat (first|assumption|exact Below.refl _ _|refine keep_drew ?_|refine keep_alloc ?_ _|refine keep_trans ?_ (by assumption)))⟩) ?_
    dsimp only[pickOps,nthOp]
    repeat (first|(refine wpS_skip rfl (fun K hK=>?_);go_big_quiet_op;refine hK _ ?_;clear hK K)|(refine wpS_quiet rfl rfl (fun K hK=>?_);go_big_quiet_op;refine hK _ ?_;clear hK K)|(refine wpS_loud ?_;go_wp2_with (first|(go_at_call 89;(with_reducible refine (HRD.out _ (keep_trans HBR.out (by (repeat (first|assumption|exact Below.refl _ _|refine keep_drew ?_|refine keep_alloc ?_ _|refine keep_trans ?_ (by assumption)))))).mono ?_);rintro _ v1 ⟨g,rfl,ho,hbv1⟩;have hkv1:Below wr.heap.size wr v1:=(by (repeat (first|assumption|exact Below.refl _ _|refine keep_drew ?_|refine keep_alloc ?_ _|refine keep_trans ?_ (by assumption))));obtain ⟨xv10,xv11,xv12,xv1l⟩:=c3_of (keepq hkv1 QR.out);have HIG:=ho.ic (by omega))|(go_at_call 43;(with_reducible refine (HSM.out _ _ _ (keep_trans HBR.out (by (repeat (first|assumption|exact Below.refl _ _|refine keep_drew ?_|refine keep_alloc ?_ _|refine keep_trans ?_ (by assumption))))) (HIG.mono (by (repeat (first|assumption|exact Below.refl _ _|refine keep_drew ?_|refine keep_alloc ?_ _|refine keep_trans ?_ (by assumption)))))).mono ?_);rintro _ v2 ⟨rfl,hbv2⟩;have hkv2:Below wr.heap.size wr v2:=(by (repeat (first|assumption|exact Below.refl _ _|refine keep_drew ?_|refine keep_alloc ?_ _|refine keep_trans ?_ (by assumption))));obtain ⟨xv20,xv21,xv22,xv2l⟩:=c3_of (keepq hkv2 QR.out))|(go_at_call 146;(with_reducible refine (HD1.out _ (keep_trans HBR.out (by (repeat (first|assumption|exact Below.refl _ _|refine keep_drew ?_|refine keep_alloc ?_ _|refine keep_trans ?_ (by assumption)))))).mono ?_);rintro _ v3 ⟨rfl,hbv3⟩;have hkv3:Below wr.heap.size wr v3:=(by (repeat (first|assumption|exact Below.refl _ _|refine keep_drew ?_|refine keep_alloc ?_ _|refine keep_trans ?_ (by assumption))));obtain ⟨xv30,xv31,xv32,xv3l⟩:=c3_of (keepq hkv3 QR.out))|(go_at_call 147;(with_reducible refine (HGP.out _ (keep_trans HBR.out (by (repeat (first|assumption|exact Below.refl _ _|refine keep_drew ?_|refine keep_alloc ?_ _|refine keep_trans ?_ (by assumption)))))).mono ?_);rintro _ v5 ⟨rfl,hbv5⟩;have hkv5:Below wr.heap.size wr v5:=(by (repeat (first|assumption|exact Below.refl _ _|refine keep_drew ?_|refine keep_alloc ?_ _|refine keep_trans ?_ (by assumption))));obtain ⟨xv50,xv51,xv52,xv5l⟩:=c3_of (keepq hkv5 QR.out))|fail);refine ⟨?_,?_⟩;focus (exact ⟨_,below_over (by repeat (first|assumption|exact Below.refl _ _|refine keep_drew ?_|refine keep_alloc ?_ _|refine keep_trans ?_ (by assumption)))⟩)))
    refine wpS_late _ _ _ rfl ?_
    dsimp only[List.map]
    go_wp2_with (first|(go_at_call 89;(with_reducible refine (HRD.out _ (keep_trans HBR.out (by (repeat (first|assumption|exact Below.refl _ _|refine keep_drew ?_|refine keep_alloc ?_ _|refine keep_trans ?_ (by assumption)))))).mono ?_);rintro _ v1 ⟨g,rfl,ho,hbv1⟩;have hkv1:Below wr.heap.size wr v1:=(by (repeat (first|assumption|exact Below.refl _ _|refine keep_drew ?_|refine keep_alloc ?_ _|refine keep_trans ?_ (by assumption))));obtain ⟨xv10,xv11,xv12,xv1l⟩:=c3_of (keepq hkv1 QR.out);have HIG:=ho.ic (by omega))|(go_at_call 43;(with_reducible refine (HSM.out _ _ _ (keep_trans HBR.out (by (repeat (first|assumption|exact Below.refl _ _|refine keep_drew ?_|refine keep_alloc ?_ _|refine keep_trans ?_ (by assumption))))) (HIG.mono (by (repeat (first|assumption|exact Below.refl _ _|refine keep_drew ?_|refine keep_alloc ?_ _|refine keep_trans ?_ (by assumption)))))).mono ?_);rintro _ v2 ⟨rfl,hbv2⟩;have hkv2:Below wr.heap.size wr v2:=(by (repeat (first|assumption|exact Below.refl _ _|refine keep_drew ?_|refine keep_alloc ?_ _|refine keep_trans ?_ (by assumption))));obtain ⟨xv20,xv21,xv22,xv2l⟩:=c3_of (keepq hkv2 QR.out))|(go_at_call 146;(with_reducible refine (HD1.out _ (keep_trans HBR.out (by (repeat (first|assumption|exact Below.refl _ _|refine keep_drew ?_|refine keep_alloc ?_ _|refine keep_trans ?_ (by assumption)))))).mono ?_);rintro _ v3 ⟨rfl,hbv3⟩;have hkv3:Below wr.heap.size wr v3:=(by (repeat (first|assumption|exact Below.refl _ _|refine keep_drew ?_|refine keep_alloc ?_ _|refine keep_trans ?_ (by assumption))));obtain ⟨xv30,xv31,xv32,xv3l⟩:=c3_of (keepq hkv3 QR.out))|(go_at_call 147;(with_reducible refine (HGP.out _ (keep_trans HBR.out (by (repeat (first|assumption|exact Below.refl _ _|refine keep_drew ?_|refine keep_alloc ?_ _|refine keep_trans ?_ (by assumption)))))).mono ?_);rintro _ v5 ⟨rfl,hbv5⟩;have hkv5:Below wr.heap.size wr v5:=(by (repeat (first|assumption|exact Below.refl _ _|refine keep_drew ?_|refine keep_alloc ?_ _|refine keep_trans ?_ (by assumption))));obtain ⟨xv50,xv51,xv52,xv5l⟩:=c3_of (keepq hkv5 QR.out))|fail)
    refine NoPanic.normal ?_
    have hq9:=World.alloc_heap_new v5 (.cells #[.bool bR,.bool b4,.bool b5,.bool b6,.bool false,.bool b7,.bool bG] 4)
    have hb9:Below wr.heap.size wr (v5.alloc (.cells #[.bool bR,.bool b4,.bool b5,.bool b6,.bool false,.bool b7,.bool bG] 4)):=keep_alloc (by (repeat (first|assumption|exact Below.refl _ _|refine keep_drew ?_|refine keep_alloc ?_ _|refine keep_trans ?_ (by assumption)))) _
    have HKB9:Hid (bl=[bR,b4,b5,b6,false,b7,bG]):=HKB
    have HQ9:Hid ((v5.alloc (.cells #[.bool bR,.bool b4,.bool b5,.bool b6,.bool false,.bool b7,.bool bG] 4)).heap[v5.heap.size]?=some (.cells #[.bool bR,.bool b4,.bool b5,.bool b6,.bool false,.bool b7,.bool bG] 4 (0,0))):=hq9
    have HB9:=Lib.hid (keep_trans HBR.out hb9)
    clear xv10 xv11 xv12 xv1l hkv1 hbv1 xv20 xv21 xv22 xv2l hkv2 hbv2 xv30 xv31 xv32 xv3l hkv3 hbv3 xv50 xv51 xv52 xv5l hkv5 hbv5 x0 x1 x2 xl HIG ho hq9 hb9 HRD HSM HGP HD1 HD2 HKB
    generalize v5.heap.size=b9 at HQ9 ⊢
    generalize (v5.alloc (.cells #[.bool bR,.bool b4,.bool b5,.bool b6,.bool false,.bool b7,.bool bG] 4))=V9 at HQ9 HB9 ⊢
    go_upto_region 15 with fail
    have hqs:=World.alloc_heap_new V9 (.cells #[.string ⟨#[114,101,100,117,99,101,100]⟩,.string ⟨#[115,121,109,109,101,116,114,105,99]⟩,.string ⟨#[105,100,101,109,112,111,116,101,110,116]⟩,.string ⟨#[117,110,105,112,111,116,101,110,116]⟩,.string ⟨#[100,105,97,103,111,110,97,108]⟩,.string ⟨#[112,97,110,100,105,97,103,111,110,97,108]⟩,.string ⟨#[103,114,111,117,112]⟩] 9)
    have hbs:Below V9.heap.size V9 (V9.alloc (.cells #[.string ⟨#[114,101,100,117,99,101,100]⟩,.string ⟨#[115,121,109,109,101,116,114,105,99]⟩,.string ⟨#[105,100,101,109,112,111,116,101,110,116]⟩,.string ⟨#[117,110,105,112,111,116,101,110,116]⟩,.string ⟨#[100,105,97,103,111,110,97,108]⟩,.string ⟨#[112,97,110,100,105,97,103,111,110,97,108]⟩,.string ⟨#[103,114,111,117,112]⟩] 9)):=keep_alloc (Below.refl _ _) _
    have HQA:=Lib.hid (keepq hbs HQ9.out)
    have HQS:Hid ((V9.alloc (.cells #[.string ⟨#[114,101,100,117,99,101,100]⟩,.string ⟨#[115,121,109,109,101,116,114,105,99]⟩,.string ⟨#[105,100,101,109,112,111,116,101,110,116]⟩,.string ⟨#[117,110,105,112,111,116,101,110,116]⟩,.string ⟨#[100,105,97,103,111,110,97,108]⟩,.string ⟨#[112,97,110,100,105,97,103,111,110,97,108]⟩,.string ⟨#[103,114,111,117,112]⟩] 9)).heap[V9.heap.size]?=some (.cells #[.string kS0,.string kS1,.string kS2,.string kS3,.string kS4,.string kS5,.string kS6] 9 (0,0))):=hqs
    have HBA:=Lib.hid (keep_trans HB9.out hbs)
    clear hqs hbs HQ9 HB9
    generalize V9.heap.size=bs at HQS ⊢
    generalize (V9.alloc (.cells #[.string ⟨#[114,101,100,117,99,101,100]⟩,.string ⟨#[115,121,109,109,101,116,114,105,99]⟩,.string ⟨#[105,100,101,109,112,111,116,101,110,116]⟩,.string ⟨#[117,110,105,112,111,116,101,110,116]⟩,.string ⟨#[100,105,97,103,111,110,97,108]⟩,.string ⟨#[112,97,110,100,105,97,103,111,110,97,108]⟩,.string ⟨#[103,114,111,117,112]⟩] 9))=VA at HQA HQS HBA ⊢
    go_wp2_with fail
    go_loopw [12,13] (fun s12 s13 wr=>∃k:Nat,k≤7∧s13 = .int .i64 (k:Int)∧Hid (Below VA.heap.size VA wr)∧Hid (wr.ownsRow VA.heap.size 9 1 s12 (kt k).length ((kt k).map fun i => .string (kStr i)))) (fun _ s13 _=>7 - (intOf s13).toNat)
    case atStart =>
     have h0:kt 0=[]:=List.length_eq_zero_iff.1 (Nat.le_zero.1 (HKL.out 0))
     exact ⟨0,by omega,rfl,Below.refl _ _,by unfold Hid;rw[h0];exact World.ownsRow_nil _ _ _ _⟩
    case round =>
     obtain ⟨k,hk,rfl,hB,hO⟩:=hrel
     obtain ⟨av,cv,hs5⟩:=owns_shape hO.out
     subst hs5
     by_cases hlt9:k<7
     ·have hki:(k:Int)<7:=by omega
      have y0:=seven_at _ _ _ _ _ _ _ (keepq hB.out HQA.out) hlt9
      have z0:=seven_str (keepq hB.out HQS.out) hlt9
      have yl:=q_lt (keepq hB.out HQA.out)
      have zl:=q_lt (keepq hB.out HQS.out)
      rw[← HKB9.out] at y0
      have HT:=Lib.hid (HKT.out k)
      have hlen:=HKL.out k
      have hsz:=hB.out.size
      generalize bl[k]?.getD false=bb at y0 HT
      cases bb with
      | true =>
       go_wp2_with (first|(at_builtin;refine wpList_append_any _ rfl _ _ 84 rfl VA.heap.size 9 i0 (.string ⟨#[]⟩) 16 Tryz.underlying84 hi0 hz0 hz1 hz2 rfl _ _ _ rfl (hO.out.alloc _) (by simp only[World.size_alloc];omega) _ _ _ [.string (kStr k)] rfl rfl (.inl ⟨_,rfl,cell_one_new _ _ _⟩) (by simp[Value.oneCell']) (by unfold maxLen;omega) (by omega) ?_;intro v7 w7 hown7 hst7 hk7;have hb7:=hst7.below' (B:=VA.heap.size) (w0:=VA) (by simp only[World.size_alloc];omega) (hB.out.alloc hsz _) (fun j e=>(hO.out.lt j e).1))|fail)
       go_roundw
       case rel=>exact ⟨k+1,by omega,by go_num,hb7,by unfold Hid;rw[HT.out,if_pos rfl,List.length_append,List.map_append];exact hown7⟩
       case measure=>simp[intOf];omega
      | false =>
       go_wp2_with fail
       go_roundw
       case rel=>exact ⟨k+1,by omega,by go_num,hB,by unfold Hid;rw[HT.out,if_neg (by simp)];exact hO.out⟩
       case measure=>simp[intOf];omega
     ·have e:k=7:=by omega
      have hno:¬(k:Int)<7:=by omega
      have hO9:wr.ownsRow w.heap.size 9 1 (.slice av ((kt 7).map kStr).length cv) ((kt 7).map kStr).length (((kt 7).map kStr).map Value.string):=by
       rw[e] at hO
       have:=owns_base hO.out (show w.heap.size≤VA.heap.size from HBA.out.size)
       rw[List.length_map,List.map_map]
       exact this
      have hl:(kt k).length=((kt 7).map kStr).length:=by rw[e];simp
      rw[hl]
      have HO9:=Lib.hid hO9
      clear hO9 hO hl e
      go_wp2_with fail
      refine bodyPost_ret (v := .slice av ((kt 7).map kStr).length cv) ?_ rfl ⟨av,cv,rfl,HO9.out,keep_trans HBA.out hB.out⟩
      simp[results,Tryz.f78,go_sem]
end
end Go.Proofs.YtmfpdakaeagdpaaGreat
