/- Texts J67 to J71 of this proof, in one file. -/
import Derived.Test.YtmfpdakaeagdpaaGreatW01
import Derived.Test.YtmfpdakaeagdpaaGreatW02
import Derived.Test.YtmfpdakaeagdpaaGreatW03
import Derived.Test.YtmfpdakaeagdpaaGreatW04
import Derived.Test.YtmfpdakaeagdpaaGreatW05
import Derived.Test.YtmfpdakaeagdpaaGreatW06
import Derived.Test.YtmfpdakaeagdpaaGreatW07
import Derived.Test.YtmfpdakaeagdpaaGreatW08
import Derived.Test.YtmfpdakaeagdpaaGreatW09
import Derived.Test.YtmfpdakaeagdpaaGreatW10
import Derived.Test.YtmfpdakaeagdpaaGreatW11
import Derived.Test.YtmfpdakaeagdpaaGreatW13
import Derived.Test.YtmfpdakaeagdpaaGreatW16
import Derived.Below
import Derived.BigFrame
import Derived.BigQuiet
import Derived.Deep.CutBlock
import Derived.Deep.CutRange
import Derived.Deep.LoopGhost
import Derived.Deep.Quiet
import Derived.Deep.RegionHeld3
import Derived.DeepKeys4
import Derived.KernelRfl
import Derived.Laws.BitsAllLaws
import Derived.Laws.EntriesVeiled
import Derived.Lib.Hide
import Derived.Lib.SlKeysI
import Derived.Lib.SliceRun
import Derived.LoopIn
import Derived.LoopNIn
import Derived.Maps.AppendAt
import Derived.Maps.OwnIn
import Derived.Maps.OwnSet
import Derived.OneCell
import Derived.OrdersHeld
import Derived.OrdersIn
import Derived.OwnWalkIn
import Derived.RangeFuncBound
import Derived.RangeFuncBox
import Derived.RangeFuncCalls
import Derived.RangeFuncLeaves
import Derived.RangeFuncNested
import Derived.RangeFuncWrites
import Derived.Shelf.Abstract
import Derived.Shelf.SortM.Plain
import Derived.Still
import Derived.TacticsIn
import Derived.TacticsInMore
import Derived.Test.YtmfpdakaeagdpaaGreatProg
import Derived.WalkKit
import Derived.WalkLawsBesides
import Derived.WalkSpells
import Derived.WideKeyPair
namespace Go.Proofs.YtmfpdakaeagdpaaGreat
set_option maxRecDepth 100000
set_option maxHeartbeats 16000000
section
open Go Go.RowKit Go.Shelf Go.Sort
attribute [local go_sem] over_cell
attribute [local go_sem] Oper.semAt_some
def srt4 (f:List Int):List Int:=f.mergeSort (fun x y=>decide (x≤y))
theorem srt4_len (f:List Int):(srt4 f).length=f.length:=List.length_mergeSort f
theorem srt4_mem {f:List Int} {x:Int}:x∈srt4 f↔x∈f:=List.mem_mergeSort
theorem srt4_nodup {f:List Int} (h:f.Nodup):(srt4 f).Nodup:=(List.mergeSort_perm f _).nodup_iff.2 h
def Asc (l:List Int):Prop:=∀i j,i<j→j<l.length→l[i]?.getD 0<l[j]?.getD 0
theorem srt4_asc {f:List Int} (h:f.Nodup):Asc (srt4 f):=by
 intro i j hij hj
 have hp:=List.pairwise_mergeSort (le:=fun x y:Int=>decide (x≤y)) (fun a b c h1 h2=>by simp at h1 h2 ⊢;omega) (fun a b=>by simp;omega) f
 have hi:i<(srt4 f).length:=by omega
 have h1:=List.pairwise_iff_getElem.1 hp i j hi hj hij
 have h2:=List.pairwise_iff_getElem.1 (srt4_nodup h) i j hi hj hij
 rw[List.getElem?_eq_getElem hi,List.getElem?_eq_getElem hj,Option.getD_some,Option.getD_some]
 have h3:=of_decide_eq_true h1
 have h4:(srt4 f)[i]≤(srt4 f)[j]:=h3
 have h5:(srt4 f)[i]≠(srt4 f)[j]:=h2
 omega
theorem sort4_c (L:Nat) (v:Value) (zs:List Int) (w:World) (h:w.ownsRow L 3 1 v zs.length (zs.map (Value.int .i64))) (h1:1≤zs.length) (hr:zs.length≤100000) :
  Calls Tryz.prog 164 #[v] w fun e w'=>e = .returned (.tuple #[])∧w'.ownsRow L 3 1 v zs.length ((srt4 zs).map (Value.int .i64))∧Stays (fun k=>v.ownBlock=some k) w w':=by
 rcases h.2 with ⟨_,hz⟩|⟨gb,cap1,cur,rfl,hbase,hgb,r1,r2,r3,r4⟩
 ·omega
 have hH:Holds (Value.int .i64) w gb 0 zs.toArray:=holds_of_block_i hgb (by simpa using r4)
 have hgl:gb<w.heap.size:=(Array.getElem?_eq_some_iff.1 hgb).1
 refine (AnyM.slices_Sort_int sortA gb 0 cap1 zs w hH hgl (by omega)).mono ?_
 rintro _ w' ⟨rfl,nn,os,rfl⟩
 exact ⟨rfl,ownsRow_sorted_i (by simp) hbase hgb r1 r2 r3,Stays.grown (grownBy_sorted_i _) (fun k e=>by cases e;rfl)⟩
theorem compact4_c (a:Option Addr) (n c:Nat) (xs:List Int) (w:World) (h:IC w a n xs) (hs:Asc xs) :
  Calls Tryz.prog 165 #[.slice a n c] w fun e w'=>e = .returned (.slice a n c)∧Below w.heap.size w w':=by
 have hsm:=h.small
 by_cases h2:n<2
 ·have hI:(n:Int)<2:=by omega
  go_enter Tryz.func165,Tryz.ntmps165
  go_wp2
  go_ret
  exact ⟨rfl,Below.refl _ _⟩
 ·have hI:¬(n:Int)<2:=by omega
  have HIC:=Lib.hid h
  have HAS:Hid (∀k,k+1<n→xs[k]?.getD 0<xs[k+1]?.getD 0):=fun k hk=>hs k (k+1) (by omega) (by rw[h.len];exact hk)
  clear h hs
  go_enter Tryz.func165,Tryz.ntmps165
  go_wp2_with fail
  go_loopw [3] (fun s wr=>∃k:Nat,k+1≤n∧s = .int .i64 ((k:Int)+1)∧Hid (Below w.heap.size w wr)) (fun s _=>n - (intOf s).toNat)
  case atStart=>exact ⟨0,by omega,rfl,Below.refl _ _⟩
  case round =>
   obtain ⟨k,hk,rfl,hb⟩:=hrel
   by_cases hlt:k+1<n
   ·have hic:=HIC.out.mono hb.out
    obtain ⟨b1,off1,rfl,hbl1,hc1⟩:=hic.2 k (by omega)
    obtain ⟨b2,off2,e2,hbl2,hc2⟩:=hic.2 (k+1) hlt
    cases e2
    have hki:(k:Int)+1<(n:Int):=by omega
    have hlt2:=HAS.out k hlt
    generalize xs[k]?.getD 0=x1 at hc1 hlt2
    generalize xs[k+1]?.getD 0=x2 at hc2 hlt2
    have hne:(x2==x1)=false:=by simpa using (show ¬x2=x1 by omega)
    clear hic
    go_wp2_with fail
    refine wp_region_S (fun w'=>∃u,w'=over (wr) u) [] [(0,0),(0,1),(0,2),(0,3),(0,4),(0,5),(0,6),(0,7),(0,8),(0,9)] (by kernel_rfl) (by kernel_rfl) (by exact ⟨_,below_over (by repeat (first|assumption|exact Below.refl _ _|refine keep_drew ?_|refine keep_alloc ?_ _|refine keep_trans ?_ (by assumption)))⟩) ?_
    dsimp only[pickOps,nthOp]
    repeat (first|(refine wpS_skip rfl (fun K hK=>?_);go_big_quiet_op;refine hK _ ?_;clear hK K)|(refine wpS_quiet rfl rfl (fun K hK=>?_);go_big_quiet_op;refine hK _ ?_;clear hK K))
    refine wpS_end ?_
    go_wp2_with fail
    go_roundw
    case rel=>exact ⟨k+1,by omega,by go_num,hb.out.drew⟩
    case measure=>simp[intOf];omega
   ·have hki:¬(k:Int)+1<(n:Int):=by omega
    go_wp2_with fail
    go_ret
    exact ⟨rfl,hb.out⟩
end
section
open Go Go.RowKit Go.Maps
attribute [local go_sem] over_cell
attribute [local go_sem] Oper.semAt_some
def vioL (A:List Nat):List Int:=srt4 (A.map fun (s:Nat)=>(s:Int))
def MtcE (w:World) (R:(Int→Option Nat) ⊕ List Nat) (e:Ending) (w':World):Prop :=
 match R with
 | .inl _=>∃m,e = .returned (.tuple #[.map (some m),.slice none 0 0])∧Below w.heap.size w w'
 | .inr A=>∃g c,e = .returned (.tuple #[.map none,.slice (some ⟨g,0,none⟩) A.length c])∧w'.ownsRow w.heap.size 3 1 (.slice (some ⟨g,0,none⟩) A.length c) A.length ((vioL A).map (Value.int .i64))∧Below w.heap.size w w'
structure SetsOk (sets:List (List Int)):Prop where
 few:sets.length≤32∧sets.flatten.length≤4096
 num:∀x,x∈sets.flatten→0≤x∧x≤999999999
structure MtW2 (w:World) (a:Option Addr) (n c:Nat) (sets:List (List Int)) (b4 hm:Nat) (hold:Int→Option Nat) (W:World):Prop where
 q1:W.heap[w.heap.size]?=some (.cells #[.slice a n c] 40 (0,0))
 q4:W.heap[b4]?=some (.cells #[.map (some hm)] 121 (0,0))
 base:Below w.heap.size w W
 map:∃K:List Nk,(∀x,x∈K→x.1∈sets.flatten)∧MapJ W Tryz.prog 3 3 kapN hm K (holdI hold)
 hlt:∀x s,hold x=some s→s<sets.length
theorem matched_c (a:Option Addr) (n c:Nat) (sets:List (List Int)) (w:World) (h:RC w a n sets) (S:SetsOk sets) :
  Calls Tryz.prog 110 #[.slice a n c] w (MtcE w (matchM sets (sets.flatten.length+1) sets.length 0 (fun _=>none))):=by
 have hlen:=h.1.1
 have hsm:=h.1.2
 obtain ⟨F,hF⟩:∃F,F=sets.flatten.length+1:=⟨_,rfl⟩
 obtain ⟨R,hR⟩:∃R,R=matchM sets F sets.length 0 (fun _=>none):=⟨_,rfl⟩
 rw[← hF,← hR]
 have HRR:=Lib.hid hR
 have HFF:=Lib.hid hF
 have HRC:=Lib.hid h
 have HS:=Lib.hid S
 have HLN:=Lib.hid hlen
 have h32:=S.few.1
 rw[hlen] at h32
 clear h S hF hR hlen
 go_enter Tryz.func110,Tryz.ntmps110
 have hmm:=@run_makeMap Tryz.prog
 go_upto_region 2 with fail
 have fsz:(w.alloc (.cells #[.slice a n c] 40)).heap.size=w.heap.size+1:=by simp only[World.size_alloc]
 have fB:Below w.heap.size w (w.alloc (.cells #[.slice a n c] 40)):=(Below.refl _ _).alloc (Nat.le_refl _) _
 have fq0:(w.alloc (.cells #[.slice a n c] 40)).heap[w.heap.size]?=some (.cells #[.slice a n c] 40 (0,0)):=by have h:=World.alloc_heap_new w (.cells #[.slice a n c] 40);exact h
 generalize (w.alloc (.cells #[.slice a n c] 40))=Wa at fsz fB fq0 ⊢
 rw[← fsz]
 have hM0:MapJ (Wa.alloc (.map #[] 0)) Tryz.prog 3 3 kapN Wa.heap.size [] (fun _=>none):=MapJ.made
 have hB1:Below Wa.heap.size Wa (Wa.alloc (.map #[] 0)):=(Below.refl _ _).alloc (Nat.le_refl _) _
 obtain ⟨Wm,hWm⟩:∃Wm,Wm=Wa.alloc (.map #[] 0):=⟨_,rfl⟩
 have hms:Wm.heap.size=Wa.heap.size+1:=by rw[hWm,World.size_alloc]
 rw[← hWm] at hM0 hB1 ⊢
 rw[← hms]
 have HMS:=Lib.hid hms
 have HSZ:=Lib.hid fsz
 clear hWm hms fsz
 have gsz:(Wm.alloc (.cells #[.map (some Wa.heap.size)] 121)).heap.size=Wm.heap.size+1:=by simp only[World.size_alloc]
 have gB:Below Wm.heap.size Wm (Wm.alloc (.cells #[.map (some Wa.heap.size)] 121)):=(Below.refl _ _).alloc (Nat.le_refl _) _
 have gq0:(Wm.alloc (.cells #[.map (some Wa.heap.size)] 121)).heap[Wm.heap.size]?=some (.cells #[.map (some Wa.heap.size)] 121 (0,0)):=by have h:=World.alloc_heap_new Wm (.cells #[.map (some Wa.heap.size)] 121);exact h
 generalize (Wm.alloc (.cells #[.map (some Wa.heap.size)] 121))=W2 at gsz gB gq0 ⊢
 have h0:MtW2 w a n c sets Wm.heap.size Wa.heap.size (fun _=>none) W2:=⟨keepq gB (keepq hB1 fq0),gq0,keep_trans fB (keep_trans hB1 gB),⟨[],fun x hx=>(by cases hx),(hM0.mono gB (by have:=HMS.out;omega)).same (fun _=>rfl)⟩,fun x s e=>by cases e⟩
 have H0:=Lib.hid h0
 obtain ⟨x0,xf,xl⟩:=c1_of h0.q1
 have hszw:w.heap.size<Wa.heap.size:=by have:=HSZ.out;omega
 have hszm:Wa.heap.size<Wm.heap.size:=by have:=HMS.out;omega
 clear h0 gsz gq0 gB hM0 hB1 fq0 fB
 go_wp2_with fail
 go_loopw [5,6,7,8,12] (fun _ _ _ _ s wr=>∃(k:Nat) (hold:Int→Option Nat),k≤n∧s = .int .i64 (k:Int)∧Hid (MtW2 w a n c sets Wm.heap.size Wa.heap.size hold wr)∧Hid (R=matchM sets F (n - k) k hold)) (fun _ _ _ _ s _=>n - (intOf s).toNat)
 case atStart=>exact ⟨0,_,by omega,rfl,H0,by rw[Nat.sub_zero,← HLN.out];exact HRR⟩
 case round =>
  obtain ⟨k,hold,hk,rfl,hst,hR⟩:=hrel
  clear x0 xf xl H0
  by_cases hlt:k<n
  ·have hki:(k:Int)<(n:Int):=by omega
   obtain ⟨x0,xf,xl⟩:=c1_of hst.out.q4
   obtain ⟨y0,yf,yl⟩:=c1_of hst.out.q1
   go_upto_region 9 with fail
   have hwm:Wm.heap.size<wr.heap.size:=q_lt hst.out.q4
   obtain ⟨A1,hA1⟩:∃A1,A1=wr.alloc (.map #[] 0):=⟨_,rfl⟩
   have s1:A1.heap.size=wr.heap.size+1:=by rw[hA1,World.size_alloc]
   have hMs:MapC A1 Tryz.prog 3 4 kapN wr.heap.size [] (fun _=>false):=by rw[hA1];exact MapC.made
   have b1:Below wr.heap.size wr A1:=by rw[hA1];exact (Below.refl _ _).alloc (Nat.le_refl _) _
   rw[← hA1,← s1]
   obtain ⟨A2,hA2⟩:∃A2,A2=A1.alloc (.cells #[.map (some wr.heap.size)] 124):=⟨_,rfl⟩
   have s2:A2.heap.size=A1.heap.size+1:=by rw[hA2,World.size_alloc]
   have q6:A2.heap[A1.heap.size]?=some (.cells #[.map (some wr.heap.size)] 124 (0,0)):=by rw[hA2];exact World.alloc_heap_new _ _
   have b2:Below A1.heap.size A1 A2:=by rw[hA2];exact (Below.refl _ _).alloc (Nat.le_refl _) _
   rw[← hA2,← s2]
   obtain ⟨A3,hA3⟩:∃A3,A3=A2.alloc (.cells #[] 3):=⟨_,rfl⟩
   have s3:A3.heap.size=A2.heap.size+1:=by rw[hA3,World.size_alloc]
   have qg:A3.heap[A2.heap.size]?=some (.cells #[] 3 (0,0)):=by rw[hA3];exact World.alloc_heap_new _ _
   have b3:Below A2.heap.size A2 A3:=by rw[hA3];exact (Below.refl _ _).alloc (Nat.le_refl _) _
   rw[← hA3,← s3]
   obtain ⟨A4,hA4⟩:∃A4,A4=A3.alloc (.cells #[.slice (some ⟨A2.heap.size,0,none⟩) 0 0] 22):=⟨_,rfl⟩
   have s4:A4.heap.size=A3.heap.size+1:=by rw[hA4,World.size_alloc]
   have qA:A4.heap[A3.heap.size]?=some (.cells #[.slice (some ⟨A2.heap.size,0,none⟩) 0 0] 22 (0,0)):=by rw[hA4];exact World.alloc_heap_new _ _
   have b4:Below A3.heap.size A3 A4:=by rw[hA4];exact (Below.refl _ _).alloc (Nat.le_refl _) _
   rw[← hA4,← s4]
   obtain ⟨A5,hA5⟩:∃A5,A5=A4.alloc (.cells #[.func (.func 163) #[] #[.pointer (some ⟨A3.heap.size,0,none⟩),.pointer (some ⟨w.heap.size,0,none⟩),.pointer (some ⟨A1.heap.size,0,none⟩),.pointer (some ⟨Wm.heap.size,0,none⟩),.pointer (some ⟨A4.heap.size,0,none⟩)]] 72):=⟨_,rfl⟩
   have q8:A5.heap[A4.heap.size]?=some (.cells #[.func (.func 163) #[] #[.pointer (some ⟨A3.heap.size,0,none⟩),.pointer (some ⟨w.heap.size,0,none⟩),.pointer (some ⟨A1.heap.size,0,none⟩),.pointer (some ⟨Wm.heap.size,0,none⟩),.pointer (some ⟨A4.heap.size,0,none⟩)]] 72 (0,0)):=by rw[hA5];exact World.alloc_heap_new _ _
   have b5:Below A4.heap.size A4 A5:=by rw[hA5];exact (Below.refl _ _).alloc (Nat.le_refl _) _
   rw[← hA5]
   have b25:Below A2.heap.size A2 A5:=keep_trans (keep_trans b3 b4) b5
   have b15:Below A1.heap.size A1 A5:=keep_trans b2 b25
   have b05:Below wr.heap.size wr A5:=keep_trans b1 b15
   obtain ⟨p,hp⟩:∃p:PB,p={ w0:=w,bA:=A3.heap.size,bS:=w.heap.size,b6:=A1.heap.size,b4:=Wm.heap.size,b8:=A4.heap.size,sm:=wr.heap.size,hm:=Wa.heap.size,aS:=a,nS:=n,cS:=c,sets:=sets }:=⟨_,rfl⟩
   have hpf:PFix p:=by
    subst hp
    exact ⟨⟨by dsimp only;omega,by dsimp only;omega,by dsimp only;omega⟩,⟨by dsimp only;omega,by dsimp only;omega,by dsimp only;omega⟩,⟨by dsimp only;omega,by dsimp only;omega,by dsimp only;omega⟩,⟨by dsimp only;omega,by dsimp only;omega,by dsimp only;omega⟩,⟨by dsimp only;omega,by dsimp only;omega,by dsimp only;omega⟩,⟨by dsimp only;omega,by dsimp only;omega,by dsimp only;omega⟩,HRC.out,HS.out.few,HS.out.num⟩
   have hpl:PlW p ⟨hold,[],[]⟩ (.slice (some ⟨A2.heap.size,0,none⟩) 0 0) A5:=by
    subst hp
    obtain ⟨K,hK,hM⟩:=hst.out.map
    have hMl:=hM.lt
    refine ⟨keepq b5 qA,keepq b05 hst.out.q1,keepq b25 q6,keepq b05 hst.out.q4,q8,keep_trans hst.out.base b05,⟨rfl,.inr ⟨A2.heap.size,0,#[],rfl,by dsimp only;omega,keepq (keep_trans b4 b5) qg,Nat.le_refl _,by unfold maxLen;omega,rfl,rfl⟩⟩,?_,⟨K,hK,hM.mono b05 hMl⟩,⟨[],fun x hx=>(by cases hx),(hMs.mono b15 (by omega)).same (fun _=>rfl)⟩,hst.out.hlt⟩
    intro k9 e hs9
    simp only[Value.ownBlock,Option.some.injEq] at e
    unfold PB.Sp at hs9
    dsimp only at hs9
    omega
   have hun0:unseen sets.flatten []≤sets.flatten.length:=List.countP_le_length
   have hfew:=HS.out.few
   have hF:=HFF.out
   have HCL:=mplace_c p hpf F k ⟨hold,[],[]⟩ _ A5 (by subst hp;dsimp only;have:=HLN.out;omega) hpl (by subst hp;dsimp only;omega) (by subst hp;dsimp only[List.length_nil];omega)
   have hRk:R=if (placeM sets F k ⟨hold,[],[]⟩).1=true then matchM sets F (n - (k+1)) (k+1) (placeM sets F k ⟨hold,[],[]⟩).2.hold else .inr (placeM sets F k ⟨hold,[],[]⟩).2.asked:=by
    rw[hR.out,show n - k=(n - (k+1))+1 by omega,matchM]
   have hgrw:=(place_grows (sets:=sets) F k ⟨hold,[],[]⟩).2
   have hps:p.sets=sets:=by rw[hp]
   have hpA:p.bA=A3.heap.size∧p.bS=w.heap.size∧p.b6=A1.heap.size∧p.b4=Wm.heap.size∧p.b8=A4.heap.size∧p.w0=w:=by rw[hp];exact ⟨rfl,rfl,rfl,rfl,rfl,rfl⟩
   rw[hps,hpA.1,hpA.2.1,hpA.2.2.1,hpA.2.2.2.1,hpA.2.2.2.2.1] at HCL
   obtain ⟨P9,hP9⟩:∃P9,P9=placeM sets F k ⟨hold,[],[]⟩:=⟨_,rfl⟩
   rw[← hP9] at HCL hRk hgrw
   have HC9:=Lib.hid HCL
   have HP:=Lib.hid hp
   obtain ⟨z0,zf,zl⟩:=c1_of q8
   have HUN:=Lib.hid hun0
   clear x0 xf xl y0 yf yl HCL hpf hpl hps hpA hp hF q6 qg qA q8 hMs b1 b2 b3 b4 b5 b25 b15 b05 s1 s2 s3 s4 hA1 hA2 hA3 hA4 hA5 hP9
   obtain ⟨r9,st9⟩:=P9
   dsimp only at hRk hgrw
   have hal:st9.asked.length≤4097:=by simp only[List.length_nil] at hgrw;omega
   clear hgrw hun0
   cases r9 with
   | true =>
    rw[if_pos rfl] at hRk
    have HRK:=Lib.hid hRk
    clear hRk
    go_wp2_with (first|(go_at_call 163;refine HC9.out.mono ?_;rintro _ w9 ⟨rfl,va9,hpl9,hst9,hblk9⟩)|fail)
    go_roundw
    case rel =>
     have hp:=HP.out
     subst hp
     exact ⟨k+1,st9.hold,by omega,by go_num,⟨hpl9.qS,hpl9.q4,hpl9.base,hpl9.hold,hpl9.hlt⟩,HRK⟩
    case measure=>simp[intOf];omega
   | false =>
    rw[if_neg (by decide)] at hRk
    have HRK:=Lib.hid hRk
    clear hRk
    have hV:=(match_ok (sets:=sets) (F:=F) (by have:=HFF.out;omega) sets.length 0 (fun _=>none) (by omega) ⟨fun x t e=>(by cases e),fun a b t _ e=>(by cases e),fun t h=>absurd h (by omega),fun z t e=>(by cases e)⟩).2 st9.asked (HRR.out.symm.trans HRK.out)
    have hpos:0<st9.asked.length:=List.length_pos_iff.2 hV.2
    have hnd:(st9.asked.map fun (s:Nat)=>(s:Int)).Nodup:=by
     unfold List.Nodup
     rw[List.pairwise_map]
     exact List.Pairwise.imp (fun {a b} hne e=>hne (by omega)) hV.1.nodup
    have HAS:=Lib.hid (srt4_asc hnd)
    have HZL:Hid ((st9.asked.map fun (s:Nat)=>(s:Int)).length=st9.asked.length):=by unfold Hid;rw[List.length_map]
    clear hV hnd
    go_upto_region 10 with (first|(go_at_call 163;refine HC9.out.mono ?_;rintro _ w9 ⟨rfl,va9,hpl9,hst9,hblk9⟩)|fail)
    obtain ⟨g9,c9,x9,rfl,_⟩:=owns_free hpl9.own 0 hpos
    have hown9:w9.ownsRow w.heap.size 3 1 (.slice (some ⟨g9,0,none⟩) st9.asked.length c9) (st9.asked.map fun (s:Nat)=>(s:Int)).length ((st9.asked.map fun (s:Nat)=>(s:Int)).map (Value.int .i64)):=by
     have:=hpl9.own
     have hp:=HP.out
     subst hp
     rw[HZL.out,List.map_map]
     exact this
    have hqA:w9.heap[A3.heap.size]?=some (.cells #[.slice (some ⟨g9,0,none⟩) st9.asked.length c9] 22 (0,0)):=by
     have:=hpl9.qA
     have hp:=HP.out
     subst hp
     exact this
    have hne:¬g9=A3.heap.size:=fun e=>hpl9.ap g9 rfl (.inl (by rw[HP.out];exact e))
    have hb9:Below w.heap.size w w9:=by
     have:=hpl9.base
     have hp:=HP.out
     subst hp
     exact this
    have HSO:=Lib.hid (sort4_c w.heap.size (.slice (some ⟨g9,0,none⟩) st9.asked.length c9) (st9.asked.map fun (s:Nat)=>(s:Int)) w9 hown9 (by rw[HZL.out];omega) (by rw[HZL.out];omega))
    obtain ⟨x0,xf,xl⟩:=c1_of hqA
    have HQA:=Lib.hid hqA
    have HB9:=Lib.hid hb9
    clear hpl9 hst9 hblk9 hown9 hqA z0 zf zl hb9
    have HVE:Hid (vioL st9.asked=srt4 (st9.asked.map fun (s:Nat)=>(s:Int))):=rfl
    go_wp2_with fail
    go_at_call 164
    refine HSO.out.mono ?_
    rintro _ w10 ⟨rfl,hown10,hst10⟩
    rw[HZL.out] at hown10
    have hq10:=hst10.q HQA.out (fun e=>hne (by simpa [Value.ownBlock] using e))
    clear x0 xf xl
    obtain ⟨x0,xf,xl⟩:=c1_of hq10
    have hic10:=(IC.own hown10 (by rw[srt4_len,HZL.out]) (by omega)).1
    go_wp2_with (first|(go_at_call 165;refine (compact4_c _ _ _ _ _ hic10 HAS.out).mono ?_;rintro _ w11 ⟨rfl,hb11⟩)|fail)
    go_ret2
    rw[HRK.out]
    have hb10:Below w.heap.size w w10:=hst10.below' HB9.out.size HB9.out (fun k e=>(hown10.lt k e).1)
    exact ⟨g9,c9,rfl,by rw[HVE.out];exact owns_keep hown10 (fun k _ hl=>hb11.block k hl),keep_trans hb10 hb11⟩
  ·have e:k=n:=by omega
   subst e
   obtain ⟨x0,xf,xl⟩:=c1_of hst.out.q4
   have HE:Hid (R = .inl hold):=by
    have:=hR.out
    rw[Nat.sub_self] at this
    exact this
   go_wp2_with fail
   go_ret2
   rw[HE.out]
   exact ⟨_,rfl,hst.out.base⟩
end
section
open Go Go.RowKit
attribute [local go_sem] over_cell
attribute [local go_sem] Oper.semAt_some
def LRow (X:Nat→Prop) (B:Nat) (W:World) (v:Value) (n:Nat) (xss:List (List Int)):Prop :=
 xss.length=n∧∃vs:List Value,W.ownsRow B 22 1 v n vs∧∀k,k<n→∃a' n' c',vs[k]?=some (.slice a' n' c')∧IC W a' n' (xss[k]?.getD [])∧n'≤c'∧∀b o,0<n'→a'=some ⟨b,o,none⟩→v.ownBlock≠some b∧¬X b
theorem LRow.keep {X:Nat→Prop} {B n:Nat} {W W':World} {v:Value} {xss:List (List Int)} (h:LRow X B W v n xss) (hb:Below W.heap.size W W'):LRow X B W' v n xss:=by
 obtain ⟨h1,vs,h2,h3⟩:=h
 refine ⟨h1,vs,owns_keep h2 (fun k _ hl=>hb.block k hl),fun k hk=>?_⟩
 obtain ⟨a',n',c',e1,e2,e3,e4⟩:=h3 k hk
 exact ⟨a',n',c',e1,e2.mono hb,e3,e4⟩
theorem LRow.weak {X X':Nat→Prop} {B n:Nat} {W:World} {v:Value} {xss:List (List Int)} (h:LRow X B W v n xss) (hx:∀b,b<W.heap.size→X' b→X b):LRow X' B W v n xss:=by
 obtain ⟨h1,vs,h2,h3⟩:=h
 refine ⟨h1,vs,h2,fun k hk=>?_⟩
 obtain ⟨a',n',c',e1,e2,e3,e4⟩:=h3 k hk
 refine ⟨a',n',c',e1,e2,e3,fun b o h0 e5=>⟨(e4 b o h0 e5).1,fun e6=>?_⟩⟩
 obtain ⟨b9,o9,e7,hb9,_⟩:=e2.2 0 h0
 rw[e5] at e7
 cases e7
 exact (e4 b o h0 e5).2 (hx b hb9 e6)
theorem LRow.rc {X:Nat→Prop} {B n c:Nat} {W:World} {a:Option Addr} {xss:List (List Int)} (h:LRow X B W (.slice a n c) n xss) (hn:n≤17592186044416):RC W a n xss∧n≤c:=by
 obtain ⟨h1,vs,h2,h3⟩:=h
 have hl:vs.length=n:=by have:=h2.1;omega
 refine rc_of_rv h2 ⟨by rw[hl,h1],fun k hk=>?_⟩ hn
 obtain ⟨a',n',c',e1,e2,e3,_⟩:=h3 k (by omega)
 exact ⟨a',n',c',e1,e2,e3⟩
theorem LRow.set {X:Nat→Prop} {B n c g k:Nat} {W:World} {xss:List (List Int)} {a':Option Addr} {n' c':Nat} {ys:List Int} (h:LRow X B W (.slice (some ⟨g,0,none⟩) n c) n xss) (_hk:k<n) (hy:IC W a' n' ys) (hc:n'≤c') (hg:∀b o,0<n'→a'=some ⟨b,o,none⟩→b≠g∧¬X b) :
  LRow X B (W.setCell ⟨g,k,none⟩ (.slice a' n' c')) (.slice (some ⟨g,0,none⟩) n c) n (xss.set k ys):=by
 obtain ⟨h1,vs,h2,h3⟩:=h
 have hl:vs.length=n:=by have:=h2.1;omega
 have hst:Stays (fun b=>b=g) W (W.setCell ⟨g,k,none⟩ (.slice a' n' c')):=Stays.setCell (S:=fun b=>b=g) W (p:=⟨g,k,none⟩) rfl _
 refine ⟨by rw[List.length_set];exact h1,vs.set k (.slice a' n' c'),owns_set h2 k _,fun i hi=>?_⟩
 by_cases e:i=k
 ·subst e
  refine ⟨a',n',c',by rw[List.getElem?_set_self (by omega)],?_,hc,fun b o h0 e2=>⟨fun e3=>(hg b o h0 e2).1 (by simpa [Value.ownBlock] using e3.symm),(hg b o h0 e2).2⟩⟩
  rw[List.getElem?_set_self (by omega),Option.getD_some]
  exact hy.stays hst (fun b o h0 e2 e3=>(hg b o h0 e2).1 e3)
 ·obtain ⟨a9,n9,c9,e1,e2,e3,e4⟩:=h3 i hi
  refine ⟨a9,n9,c9,by rw[List.getElem?_set_ne (fun e5=>e e5.symm)];exact e1,?_,e3,e4⟩
  rw[List.getElem?_set_ne (fun e5=>e e5.symm)]
  exact e2.stays hst (fun b o h0 e5 e6=>(e4 b o h0 e5).1 (by simp[Value.ownBlock,e6]))
theorem run_nilR (w:World) (a:Option Addr) (n c:Nat):(binOp .eql 40 (.slice a n c) (.slice none 0 0)).run Tryz.prog w = .ok (.bool a.isNone) w :=
 Go.Lib.run_eql_slice_nil w _ _ a n c 0 0 Tryz.underlying40
attribute [local go_sem] run_nilR
theorem cloneR_c (a:Option Addr) (n c:Nat) (g:List (List Int)) (w:World) (h:RC w a n g) (hn5:n≤1000000) :
  Calls Tryz.prog 161 #[.slice a n c] w fun e w'=>∃v,e = .returned v∧LRow (fun _=>False) w.heap.size w' v n g∧Below w.heap.size w w':=by
 have hm:=h.1.2
 have hl:=h.1.1
 obtain ⟨i0,hi,hz0,hz1,hz2⟩:=info_parts infoRow
 cases a with
 | none =>
  have hn:n=0:=by
   rcases Nat.eq_zero_or_pos n with h0|h0
   ·exact h0
   ·obtain ⟨_,_,_,_,_,e,_⟩:=h.2 0 h0
    cases e
  subst hn
  go_enter Tryz.func161,Tryz.ntmps161
  go_wp2
  go_ret
  exact ⟨_,rfl,⟨hl,[],World.ownsRow_nil _ _ _ _,fun k hk=>absurd hk (by omega)⟩,Below.refl _ _⟩
 | some p =>
  obtain ⟨vs,hsrc,hrv,hvl⟩:=rc_vals h
  have HR:=Lib.hid hrv
  have hlo:∀k,k<n→∃a' n' c',vs[k]?=some (.slice a' n' c')∧IC w a' n' (g[k]?.getD [])∧n'≤c':=fun k hk=>hrv.2 k (by omega)
  have HLO:=Lib.hid hlo
  clear hrv hlo h
  go_enter Tryz.func161,Tryz.ntmps161
  go_wp2_with (at_builtin;refine wpList_append_any _ rfl _ _ 40 rfl w.heap.size 22 i0 (.slice none 0 0) 24 Tryz.underlying40 hi hz0 hz1 hz2 rfl _ 0 [] rfl (World.ownsRow_made w #[] 0 (Nat.le_refl _) (by decide) rfl) (by rw[World.size_alloc];omega) (some p) n c vs rfl hvl (hsrc.mono ((Below.refl _ _).alloc (Nat.le_refl _) _)) HR.out.one (by unfold maxLen;omega) (by omega) ?_;intro v' w1 hown hst hk)
  go_ret
  have hb1:Below w.heap.size w w1:=hst.below' (by rw[World.size_alloc];omega) ((Below.refl _ _).alloc (Nat.le_refl _) _) (fun j e=>by cases e;exact Nat.le_refl _)
  rw[Nat.zero_add,List.nil_append] at hown
  refine ⟨_,rfl,⟨hl,vs,hown,fun k hk=>?_⟩,hb1⟩
  obtain ⟨a',n',c',e1,e2,e3⟩:=HLO.out k hk
  refine ⟨a',n',c',e1,e2.mono hb1,e3,fun b o h0 e4=>⟨fun e5=>?_,id⟩⟩
  obtain ⟨b9,o9,e6,hb9,_⟩:=e2.2 0 h0
  rw[e4] at e6
  cases e6
  have:=(hown.lt b e5).1
  omega
structure SetsB (sets:List (List Int)):Prop where
 few:sets.length≤32
 each:∀s,s∈sets→s.length≤64∧∀x,x∈s→0≤x∧x≤999999999
theorem flatS_len {sets:List (List Int)} {b:Nat} (h:∀s,s∈sets→s.length≤b):sets.flatten.length≤sets.length*b:=by
 induction sets with
 | nil=>simp
 | cons s l ih =>
  rw[List.flatten_cons,List.length_append,List.length_cons,Nat.add_mul,Nat.one_mul]
  have:=ih (fun t ht=>h t (List.mem_cons_of_mem _ ht))
  have:=h s List.mem_cons_self
  omega
theorem SetsB.ok {sets:List (List Int)} (h:SetsB sets):SetsOk sets:=by
 refine ⟨⟨h.few,?_⟩,fun x hx=>?_⟩
 ·have h1:=flatS_len (b:=64) (fun s hs=>(h.each s hs).1)
  have h2:=h.few
  omega
 ·obtain ⟨s,hs,hx2⟩:=List.mem_flatten.1 hx
  exact (h.each s hs).2 x hx2
theorem SetsB.set {sets:List (List Int)} (h:SetsB sets) (k:Nat) {y:List Int} (hy:y.length≤64∧∀x,x∈y→0≤x∧x≤999999999):SetsB (sets.set k y):=by
 refine ⟨by rw[List.length_set];exact h.few,fun s hs=>?_⟩
 rcases List.mem_or_eq_of_mem_set hs with e|e
 ·exact h.each s e
 ·rw[e];exact hy
end
section
open Go Go.RowKit
attribute [local go_sem] over_cell
attribute [local go_sem] Oper.semAt_some
attribute [local go_sem] run_nilI
def RepE (w:World) (R:Option (List Int)) (e:Ending) (w':World):Prop :=
 match R with
 | some l=>∃a c,e = .returned (.tuple #[.slice a l.length c,.bool true])∧w'.ownsRow w.heap.size 3 1 (.slice a l.length c) l.length (l.map (Value.int .i64))∧Below w.heap.size w w'
 | none=>e = .returned (.tuple #[.slice none 0 0,.bool false])∧Below w.heap.size w w'
theorem find_at {α:Type} {p:α→Bool} {d:α}:∀{l:List α} {i:Nat},i<l.length→(∀j,j<i→p (l[j]?.getD d)=false)→p (l[i]?.getD d)=true→l.find? p=some (l[i]?.getD d)
 | [],i,h,_,_=>absurd h (by simp)
 | x :: l,0,_,_,h=>by simp at h ⊢;exact .inl h
 | x :: l,i+1,hi,hb,h=>by
  have h0:=hb 0 (by omega)
  simp only[List.getElem?_cons_zero,Option.getD_some] at h0
  rw[List.find?_cons,h0,List.getElem?_cons_succ]
  rw[List.getElem?_cons_succ] at h
  exact find_at (by simpa using hi) (fun j hj=>by have:=hb (j+1) (by omega);simpa using this) h
theorem find_no {α:Type} {p:α→Bool} {d:α} {l:List α} (hb:∀j,j<l.length→p (l[j]?.getD d)=false):l.find? p=none:=by
 rw[List.find?_eq_none]
 intro x hx
 obtain ⟨i,hi,rfl⟩:=List.getElem_of_mem hx
 have:=hb i hi
 rw[List.getElem?_eq_getElem hi,Option.getD_some] at this
 rw[this];decide
theorem ic_one (w:World) (x:Int):IC (w.alloc (.cells #[.int .i64 x] 3)) (some ⟨w.heap.size,0,none⟩) 1 [x] :=
 ⟨⟨rfl,by omega⟩,fun k hk=>by
  obtain rfl:k=0:=by omega
  exact ⟨w.heap.size,0,rfl,by rw[World.size_alloc];omega,q_cell (World.alloc_heap_new w (.cells #[.int .i64 x] 3)) 0⟩⟩
theorem LRow.at {X:Nat→Prop} {B n k:Nat} {W:World} {v:Value} {xss:List (List Int)} (h:LRow X B W v n xss) (hk:k<n):∃g cap x,v = .slice (some ⟨g,0,none⟩) n cap∧W.cell? ⟨g,k,none⟩=some x∧W.frozen? ⟨g,k,none⟩=false∧g<W.heap.size∧n≤cap∧B≤g:=by
 obtain ⟨_,vs,h2,_⟩:=h
 obtain ⟨g,cap,x,e,_,h3,h4,h5,h6⟩:=owns_free h2 k hk
 exact ⟨g,cap,x,e,h3,h4,h5,h6,(h2.lt g (by rw[e];rfl)).1⟩
structure RpW (w:World) (n:Nat) (vL vo:Value) (out:List Int) (left:List (List Int)) (W:World):Prop where
 rows:LRow (fun b=>vo.ownBlock=some b) w.heap.size W vL n left
 own:W.ownsRow w.heap.size 3 1 vo out.length (out.map (Value.int .i64))
 ap:∀k,vo.ownBlock=some k→vL.ownBlock≠some k
 base:Below w.heap.size w W
 ok:SetsB left
theorem RpW.below {w W W':World} {n:Nat} {vL vo:Value} {out:List Int} {left:List (List Int)} (h:RpW w n vL vo out left W) (hb:Below W.heap.size W W'):RpW w n vL vo out left W' :=
 ⟨h.rows.keep hb,owns_keep h.own (fun k _ hl=>hb.block k hl),h.ap,keep_trans h.base hb,h.ok⟩
theorem RpW.set {w W:World} {n c g k:Nat} {vo:Value} {out:List Int} {left:List (List Int)} {x:Int} (h:RpW w n (.slice (some ⟨g,0,none⟩) n c) vo out left W) (hk:k<n) (hx:0≤x∧x≤999999999) (hg:g<W.heap.size) (hwg:w.heap.size≤g) :
  RpW w n (.slice (some ⟨g,0,none⟩) n c) vo out (left.set k [x]) ((W.setCell ⟨g,k,none⟩ (.slice (some ⟨W.heap.size,0,none⟩) 1 1)).alloc (.cells #[.int .i64 x] 3)):=by
 rw[← World.setCell_alloc_past _ _ _ _ hg]
 have hb:Below W.heap.size W (W.alloc (.cells #[.int .i64 x] 3)):=(Below.refl _ _).alloc (Nat.le_refl _) _
 have h2:=h.below hb
 exact ⟨h2.rows.set hk (ic_one W x) (Nat.le_refl _) (fun b o _ e=>by cases e;exact ⟨by omega,fun e2=>by have:=(h.own.lt _ e2).2;omega⟩),ownsRow_setCell_other h2.own (a:=⟨g,k,none⟩) (fun e=>h2.ap g e rfl) _,h2.ap,h2.base.setCell (p:=⟨g,k,none⟩) hwg _,h2.ok.set k ⟨by simp,fun y hy=>by rw[List.mem_singleton.1 hy];exact hx⟩⟩
theorem RpW.push {w W w7:World} {n:Nat} {vL vo v7:Value} {out:List Int} {left:List (List Int)} {x:Int} (h:RpW w n vL vo out left W) (o:Obj) (h7:w7.ownsRow w.heap.size 3 1 v7 (out.length+1) (out.map (Value.int .i64)++[.int .i64 x])) (hs7:Stays (fun k=>vo.ownBlock=some k) (W.alloc o) w7) (hk:∀k,v7.ownBlock=some k→vo.ownBlock=some k∨(W.alloc o).heap.size≤k) :
  RpW w n vL v7 (out++[x]) left w7:=by
 have h2:=h.below ((Below.refl W.heap.size W).alloc (Nat.le_refl _) o)
 have hap:∀k,v7.ownBlock=some k→vL.ownBlock≠some k:=fun k e e2=>by
  rcases hk k e with e3|e3
  ·exact h.ap k e3 e2
  ·obtain ⟨_,vs,h9,_⟩:=h2.rows
   have:=(h9.lt k e2).2;omega
 refine ⟨?_,by rw[List.length_append,List.map_append];exact h7,hap,hs7.below' h2.base.size h2.base (fun k e=>(h.own.lt k e).1),h.ok⟩
 obtain ⟨h1,vs,h9,h3⟩:=h2.rows
 refine ⟨h1,vs,owns_keep h9 (fun k e hl=>hs7.block k hl (fun e2=>h.ap k e2 e)),fun k hk9=>?_⟩
 obtain ⟨a',n',c',e1,e2,e3,e4⟩:=h3 k hk9
 refine ⟨a',n',c',e1,e2.stays hs7 (fun b o h0 e5=>(e4 b o h0 e5).2),e3,fun b o h0 e5=>⟨(e4 b o h0 e5).1,fun e6=>?_⟩⟩
 obtain ⟨b9,o9,e7,hb9,_⟩:=e2.2 0 h0
 rw[e5] at e7
 cases e7
 rcases hk b e6 with e8|e8
 ·exact (e4 b o h0 e5).2 e8
 ·omega
theorem rep_c (a:Option Addr) (n c:Nat) (sets:List (List Int)) (w:World) (h:RC w a n sets) (S:SetsB sets) :
  Calls Tryz.prog 109 #[.slice a n c] w (RepE w (repP sets sets.length [] sets)):=by
 have hlen:=h.1.1
 have h32:n≤32:=by have:=S.few;omega
 obtain ⟨R,hR⟩:∃R,R=repP sets sets.length [] sets:=⟨_,rfl⟩
 rw[← hR]
 have HRR:=Lib.hid hR
 have HRC:=Lib.hid h
 have HS:=Lib.hid S
 have HLN:=Lib.hid hlen
 have HCL:=Lib.hid (cloneR_c a n c sets w h (by omega))
 obtain ⟨i0,hi,hz0,hz1,hz2⟩:=info_parts infoInt
 clear h S hR hlen
 go_enter Tryz.func109,Tryz.ntmps109
 go_wp2_with fail
 go_step3
 go_wp2_with (first|(go_at_call 161;refine HCL.out.mono ?_;rintro _ w1 ⟨vL,rfl,hrow,hb1⟩)|fail)
 go_step3
 have HR0:Hid (RpW w n vL (.slice none 0 0) [] sets w1):=⟨hrow.weak (fun b _ e=>by cases e),World.ownsRow_nil _ _ _ _,fun k e=>(by cases e),hb1,HS.out⟩
 clear hrow hb1
 go_wp2_with fail
 go_loopw [5,6,7,9,10,11,16] (fun s5 _ _ _ _ _ s16 wr=>∃(k:Nat) (ao:Option Addr) (co:Nat) (out:List Int) (left:List (List Int)),k≤n∧s16 = .int .i64 (k:Int)∧s5 = .slice ao out.length co∧out.length=k∧Hid (RpW w n vL (.slice ao out.length co) out left wr)∧Hid (R=repP sets (n - k) out left)) (fun _ _ _ _ _ _ s16 _=>n - (intOf s16).toNat)
 case atStart=>exact ⟨0,none,0,[],sets,by omega,rfl,rfl,rfl,HR0,by rw[Nat.sub_zero,← HLN.out];exact HRR⟩
 case round =>
  obtain ⟨k,ao,co,out,left,hk,rfl,rfl,hol,hst,hR⟩:=hrel
  by_cases hlt:k<n
  ·have hki:(k:Int)<(n:Int):=by omega
   obtain ⟨b,off,a',n',c',rfl,hb0,hc0,hi9,_⟩:=HRC.out.2 k hlt
   have hc:=(hst.out.base.cell (p:=⟨b,off+k,none⟩) hb0).trans hc0
   have hb:=Nat.lt_of_lt_of_le hb0 hst.out.base.size
   clear hb0 hc0
   obtain ⟨g,capL,xL,rfl,hcL,hfL,hgL,hcap,hwg⟩:=hst.out.rows.at hlt
   have HS9:Hid (∀x,x∈sets[k]?.getD []→0≤x∧x≤999999999):=fun x hx=>by
    rw[List.getElem?_eq_getElem (by have:=HLN.out;omega),Option.getD_some] at hx
    exact (HS.out.each _ (List.getElem_mem _)).2 x hx
   have hRk:R=match (sets[out.length]?.getD []).find? fun x=>decide (x ∉ out)&&feasB (left.set out.length [x]) with
     | none=>none
     | some x=>repP sets (n - (k+1)) (out++[x]) (left.set out.length [x]):=by
    have:=hR.out
    rw[show n - k=(n - (k+1))+1 by omega,repP] at this
    exact this
   rw[hol] at hRk
   obtain ⟨s,hs⟩:∃s,s=sets[k]?.getD []:=⟨_,rfl⟩
   rw[← hs] at hi9 HS9 hRk
   obtain ⟨q,hq⟩:∃q:Int→Bool,q=fun x=>decide (x ∉ out)&&feasB (left.set k [x]):=⟨_,rfl⟩
   rw[← hq] at hRk
   have HRK:=Lib.hid hRk
   have HQ:Hid (∀x,q x=(decide (x ∉ out)&&feasB (left.set k [x]))):=fun x=>by rw[hq]
   have hsl:=hi9.len
   have hsm:=hi9.small
   have HIC:=Lib.hid hi9
   have HST:=Lib.hid hst.out
   have hll:left.length=n:=hst.out.rows.1
   have hself:left.set k (left[k]?.getD [])=left:=by
    rw[List.getElem?_eq_getElem (by omega),Option.getD_some]
    exact List.set_getElem_self (by omega)
   have HSF:Hid (RpW w n (.slice (some ⟨g,0,none⟩) n capL) (.slice ao out.length co) out (left.set k (left[k]?.getD [])) wr):=by unfold Hid;rw[hself];exact HST.out
   have HLL:=Lib.hid hll
   have HOL:=Lib.hid hol
   have HWG:=Lib.hid hwg
   clear hRk hq hs hi9 hR hll hself hst hcL hfL hgL hol
   go_wp2_with fail
   go_loopw [5,9,10,11,23] (fun s5 _ _ _ s23 wr9=>∃(i:Nat) (y:List Int),i≤n'∧s23 = .int .i64 (i:Int)∧s5 = .slice ao out.length co∧Hid (RpW w n (.slice (some ⟨g,0,none⟩) n capL) (.slice ao out.length co) out (left.set k y) wr9)∧Hid (∀j,j<i→q (s[j]?.getD 0)=false)∧Hid (Below w.heap.size w wr9)) (fun _ _ _ _ s23 _=>n' - (intOf s23).toNat)
   case atStart=>exact ⟨0,_,by omega,rfl,rfl,HSF,fun j hj=>absurd hj (by omega),HST.out.base⟩
   case round =>
    obtain ⟨i,y,hi1,rfl,rfl,hst,hqf,hbw⟩:=hrel
    by_cases hlt2:i<n'
    ·have hki2:(i:Int)<(n':Int):=by omega
     obtain ⟨b1,off1,rfl,hbl1,hc1⟩:=(HIC.out.mono hbw.out).2 i hlt2
     have hic:=(IC.of_owns hst.out.own (by have:=HOL.out;omega)).1
     have hxm:s[i]?.getD 0∈s:=by rw[List.getElem?_eq_getElem (by omega)];exact List.getElem_mem _
     have hxr:=HS9.out _ hxm
     have HFA:=Lib.hid (fun e=>find_at (p:=q) (d:=0) (l:=s) (i:=i) (by omega) hqf.out e)
     have HNX:Hid (∀x,x=s[i]?.getD 0→q x=false→∀j,j<i+1→q (s[j]?.getD 0)=false):=fun x e1 e2 j hj=>by
      rcases Nat.lt_or_ge j i with e|e
      ·exact hqf.out j e
      ·rw[show j=i by omega,← e1];exact e2
     obtain ⟨x,hxe⟩:∃x,x=s[i]?.getD 0:=⟨_,rfl⟩
     rw[← hxe] at hc1 hxr HFA
     have HNX2:=Lib.hid (HNX.out x hxe)
     have HQX:=Lib.hid (HQ.out x)
     have HCO:=Lib.hid (contains_c ao out.length co out x wr hic)
     have HIN:Hid (hasB out x=decide (x∈out)):=by unfold Hid hasB;rw[List.contains_eq_mem]
     clear hic hxm hxe HNX
     by_cases hin:x∈out
     ·rw[HIN.out,decide_eq_true hin] at HCO
      have hq0:q x=false:=by rw[HQX.out,decide_eq_false (fun e=>e hin)];rfl
      have HN3:=Lib.hid (HNX2.out hq0)
      clear hin hq0
      go_wp2_with (first|(go_at_call 162;refine HCO.out.mono ?_;rintro _ w2 ⟨rfl,rfl⟩)|fail)
      go_roundw
      case rel=>exact ⟨i+1,y,by omega,by go_num,rfl,hst,HN3,hbw⟩
      case measure=>simp[intOf];omega
     ·rw[HIN.out,decide_eq_false hin] at HCO
      have hq1:q x=feasB (left.set k [x]):=by rw[HQX.out,decide_eq_true hin,Bool.true_and]
      clear hin
      obtain ⟨g9,cap9,xL,e9,hcL,hfL,hgL,_,_⟩:=hst.out.rows.at hlt
      cases e9
      have hst8:=hst.out.set hlt hxr hgL HWG.out
      rw[List.set_set] at hst8
      have HST8:=Lib.hid hst8
      clear hst8
      go_upto_region 11 with (first|(go_at_call 162;refine HCO.out.mono ?_;rintro _ w2 ⟨rfl,rfl⟩)|fail)
      have hrc8:=(HST8.out.rows.rc (by omega)).1
      have HM:=Lib.hid (matched_c (some ⟨g,0,none⟩) n capL (left.set k [x]) _ hrc8 HST8.out.ok.ok)
      have hfe:feasB (left.set k [x])=(match matchM (left.set k [x]) ((left.set k [x]).flatten.length+1) (left.set k [x]).length 0 (fun _=>none) with | .inl _=>true | .inr _=>false):=rfl
      obtain ⟨RM,hRM⟩:∃RM,RM=matchM (left.set k [x]) ((left.set k [x]).flatten.length+1) (left.set k [x]).length 0 (fun _=>none):=⟨_,rfl⟩
      rw[← hRM] at HM hfe
      have hol32:out.length≤32:=by have:=HOL.out;omega
      clear hRM hrc8 hcL hfL
      generalize ((wr.setCell ⟨g,k,none⟩ (.slice (some ⟨wr.heap.size,0,none⟩) 1 1)).alloc (.cells #[.int .i64 x] 3))=W8 at HST8 HM ⊢
      cases RM with
      | inl h9 =>
       have hq2:q x=true:=by rw[hq1,hfe]
       have HRX:Hid (R=repP sets (n - (k+1)) (out++[x]) (left.set k [x])):=by
        unfold Hid
        rw[HRK.out,HFA.out hq2]
       clear hq1 hfe hq2
       go_wp2_with (first|(go_at_call 110;refine HM.out.mono ?_;rintro _ w9 ⟨m9,rfl,hb9⟩;have hst9:=HST8.out.below hb9;have HST9:=Lib.hid hst9;have hsz9:=hst9.base.size;clear hst9)|(at_builtin;refine wpList_append_ext _ rfl _ _ 22 rfl w.heap.size 3 i0 (.int .i64 0) 8 Tryz.underlying22 hi hz0 hz1 hz2 rfl (.slice ao out.length co) out.length _ rfl (HST9.out.own.alloc _) (by rw[World.size_alloc];omega) ⟨w9.heap.size,0,none⟩ 1 1 [.int .i64 x] rfl rfl (cell_one_new _ _ _) (by simp[Value.oneCell']) (by unfold maxLen;omega) (by omega) ?_;intro v7 w7 hown7 hst7 hx7;have hpu:=HST9.out.push _ hown7 hst7 hx7.blk;obtain ⟨a7,c7,rfl⟩:=owns_shape hown7)|fail)
       go_roundw
       case rel=>exact ⟨k+1,a7,c7,out++[x],left.set k [x],by omega,by go_num,by rw[List.length_append,List.length_singleton],by rw[List.length_append,List.length_singleton,HOL.out],by
        rw[List.length_append,List.length_singleton]
        exact hpu,HRX⟩
       case measure=>simp[intOf];omega
      | inr A =>
       have hq2:q x=false:=by rw[hq1,hfe]
       have HN3:=Lib.hid (HNX2.out hq2)
       clear hq1 hfe hq2
       go_wp2_with (first|(go_at_call 110;refine HM.out.mono ?_;rintro _ w9 ⟨g9,c9,rfl,_,hb9⟩)|fail)
       go_roundw
       case rel=>exact ⟨i+1,[x],by omega,by go_num,rfl,HST8.out.below hb9,HN3,keep_trans HST8.out.base hb9⟩
       case measure=>simp[intOf];omega
    ·have e:i=n':=by omega
     subst e
     have HE:Hid (R=none):=by
      unfold Hid
      rw[HRK.out,find_no (d:=0) (fun j hj=>hqf.out j (by omega))]
     go_wp2_with fail
     try rw[Exit.noGoto_ret]
     go_ret2
     rw[HE.out]
     exact ⟨rfl,hbw.out⟩
  ·have e:k=n:=by omega
   subst e
   have HE:Hid (R=some out):=by
    have:=hR.out
    rw[Nat.sub_self] at this
    exact this
   go_wp2_with fail
   try rw[Exit.noGoto_ret]
   go_ret2
   rw[HE.out]
   exact ⟨ao,co,rfl,hst.out.own,hst.out.base⟩
end
section
open Go Go.RowKit
attribute [local go_sem] over_cell
attribute [local go_sem] Oper.semAt_some
attribute [local go_sem] run_nilI
theorem firstL_all0 {l:List Int} (h:firstL l=0):∀x,x∈l→x=0:=by
 induction l with
 | nil=>intro x hx;cases hx
 | cons y l ih =>
  obtain ⟨h1,h2⟩:=firstL_cons0 h
  intro x hx
  rcases List.mem_cons.1 hx with e|e
  ·rw[e];exact h1
  ·exact ih h2 x e
theorem whenV_no {b:Bool} {e:Int} (he:e≠0) (h:whenV b e=0):b=false:=by
 unfold whenV at h
 cases b with
 | true=>exact absurd h he
 | false=>rfl
theorem setE_ok {s:List Int} (h:setE s=0):s.length≤64∧(∀x,x∈s→0≤x∧x≤999999999)∧risB s s.length=true:=by
 unfold setE at h
 obtain ⟨h1,h⟩:=firstL_cons0 h
 obtain ⟨h2,h⟩:=firstL_cons0 h
 obtain ⟨h3,_⟩:=firstL_cons0 h
 have e1:=of_decide_eq_false (whenV_no (by decide) h1)
 have e2:=whenV_no (by decide) h2
 have e3:=whenV_no (by decide) h3
 refine ⟨by omega,fun x hx=>?_,by simpa using e3⟩
 rw[List.any_eq_false] at e2
 have:=e2 x hx
 unfold farO at this
 simp only[Bool.or_eq_true,decide_eq_true_eq] at this
 omega
theorem stE_ok {sets:List (List Int)} (h:stE sets=0):SetsB sets∧∀s,s∈sets→risB s s.length=true:=by
 unfold stE at h
 split at h
 ·exact absurd h (by decide)
 ·rename_i h32
  have hz:=firstL_all0 h
  have hall:∀s,s∈sets→setE s=0:=fun s hs=>hz _ (List.mem_map.2 ⟨s,hs,rfl⟩)
  exact ⟨⟨by omega,fun s hs=>⟨(setE_ok (hall s hs)).1,(setE_ok (hall s hs)).2.1⟩⟩,fun s hs=>(setE_ok (hall s hs)).2.2⟩
def IntsE (w:World) (l:List Int) (er:Int) (e:Ending) (w':World):Prop :=
 ∃a c,e = .returned (.tuple #[.slice a l.length c,.int .i64 er])∧w'.ownsRow w.heap.size 3 1 (.slice a l.length c) l.length (l.map (Value.int .i64))∧Below w.heap.size w w'
def rpO (sets:List (List Int)):Option (List Int):=repP sets sets.length [] sets
def rpL (sets:List (List Int)):List Int:=if stE sets=0 then (rpO sets).getD [] else []
def rpE (sets:List (List Int)):Int:=if stE sets=0 then whenV (!(rpO sets).isSome) 21 else stE sets
def haO (sets:List (List Int)):(Int→Option Nat) ⊕ List Nat:=matchM sets (sets.flatten.length+1) sets.length 0 (fun _=>none)
def haL (sets:List (List Int)):List Int:=if stE sets=0 then (match haO sets with | .inl _=>[] | .inr A=>vioL A) else []
def haE (sets:List (List Int)):Int:=if stE sets=0 then (match haO sets with | .inl _=>7 | .inr _=>0) else stE sets
theorem represent_c (a:Option Addr) (n c:Nat) (sets:List (List Int)) (w:World) (h:RC w a n sets) :
  Calls Tryz.prog 31 #[.slice a n c] w (IntsE w (rpL sets) (rpE sets)):=by
 have HC:=Lib.hid (csets_c a n c sets w h)
 by_cases h0:stE sets=0
 ·have HR:=Lib.hid (fun W (hb:Below w.heap.size w W)=>rep_c a n c sets W (h.mono hb) (stE_ok h0).1)
  have hL:rpL sets=(rpO sets).getD []:=if_pos h0
  have hE:rpE sets=whenV (!(rpO sets).isSome) 21:=if_pos h0
  rw[hL,hE]
  rw[h0] at HC
  have HRO:Hid (∀W,Below w.heap.size w W→Calls Tryz.prog 109 #[.slice a n c] W (RepE W (rpO sets))):=HR.out
  generalize rpO sets=O at HRO ⊢
  clear HR hL hE h0 h
  cases O with
  | some l =>
   rw[show (some l).getD []=l from rfl,show whenV (!(some l).isSome) 21=0 from rfl]
   go_enter Tryz.func31,Tryz.ntmps31
   go_wp2_with (first|(go_at_call 108;refine HC.out.mono ?_;rintro _ w1 ⟨rfl,hb1⟩)|(go_at_call 109;refine (HRO.out _ hb1).mono ?_;rintro _ w2 ⟨a2,c2,rfl,hown2,hb2⟩)|(go_at_call 93;refine (twhen_c _ _ _).mono ?_;rintro _ w3 ⟨rfl,rfl⟩)|fail)
   go_ret2
   exact ⟨a2,c2,rfl,owns_base hown2 hb1.size,keep_trans hb1 hb2⟩
  | none =>
   rw[show (none:Option (List Int)).getD []=[] from rfl,show whenV (!(none:Option (List Int)).isSome) 21=21 from rfl]
   go_enter Tryz.func31,Tryz.ntmps31
   go_wp2_with (first|(go_at_call 108;refine HC.out.mono ?_;rintro _ w1 ⟨rfl,hb1⟩)|(go_at_call 109;refine (HRO.out _ hb1).mono ?_;rintro _ w2 ⟨rfl,hb2⟩)|(go_at_call 93;refine (twhen_c _ _ _).mono ?_;rintro _ w3 ⟨rfl,rfl⟩)|fail)
   go_ret2
   exact ⟨none,0,rfl,World.ownsRow_nil _ _ _ _,keep_trans hb1 hb2⟩
 ·have hL:rpL sets=[]:=if_neg h0
  have hE:rpE sets=stE sets:=if_neg h0
  rw[hL,hE]
  have h0':(stE sets != 0)=true:=by simpa using h0
  generalize stE sets=er at HC h0' ⊢
  clear hL hE h0 h
  go_enter Tryz.func31,Tryz.ntmps31
  go_wp2_with (first|(go_at_call 108;refine HC.out.mono ?_;rintro _ w1 ⟨rfl,hb1⟩)|fail)
  go_ret2
  exact ⟨none,0,rfl,World.ownsRow_nil _ _ _ _,hb1⟩
theorem hall_c (a:Option Addr) (n c:Nat) (sets:List (List Int)) (w:World) (h:RC w a n sets) :
  Calls Tryz.prog 32 #[.slice a n c] w (IntsE w (haL sets) (haE sets)):=by
 have HC:=Lib.hid (csets_c a n c sets w h)
 by_cases h0:stE sets=0
 ·have HRO:Hid (∀W,Below w.heap.size w W→Calls Tryz.prog 110 #[.slice a n c] W (MtcE W (haO sets))):=fun W (hb:Below w.heap.size w W)=>matched_c a n c sets W (h.mono hb) (stE_ok h0).1.ok
  have hL:haL sets=match haO sets with | .inl _=>[] | .inr A=>vioL A:=if_pos h0
  have hE:haE sets=match haO sets with | .inl _=>7 | .inr _=>0:=if_pos h0
  rw[hL,hE]
  rw[h0] at HC
  generalize haO sets=O at HRO ⊢
  clear hL hE h0 h
  cases O with
  | inl h9 =>
   dsimp only
   go_enter Tryz.func32,Tryz.ntmps32
   go_wp2_with (first|(go_at_call 108;refine HC.out.mono ?_;rintro _ w1 ⟨rfl,hb1⟩)|(go_at_call 110;refine (HRO.out _ hb1).mono ?_;rintro _ w2 ⟨m2,rfl,hb2⟩)|(go_at_call 93;refine (twhen_c _ _ _).mono ?_;rintro _ w3 ⟨rfl,rfl⟩)|fail)
   go_ret2
   exact ⟨none,0,rfl,World.ownsRow_nil _ _ _ _,keep_trans hb1 hb2⟩
  | inr A =>
   dsimp only
   have HVL:Hid ((vioL A).length=A.length):=by unfold Hid vioL;rw[srt4_len,List.length_map]
   go_enter Tryz.func32,Tryz.ntmps32
   go_wp2_with (first|(go_at_call 108;refine HC.out.mono ?_;rintro _ w1 ⟨rfl,hb1⟩)|(go_at_call 110;refine (HRO.out _ hb1).mono ?_;rintro _ w2 ⟨g2,c2,rfl,hown2,hb2⟩)|(go_at_call 93;refine (twhen_c _ _ _).mono ?_;rintro _ w3 ⟨rfl,rfl⟩)|fail)
   go_ret2
   exact ⟨some ⟨g2,0,none⟩,c2,by rw[HVL.out];rfl,by rw[HVL.out];exact owns_base hown2 hb1.size,keep_trans hb1 hb2⟩
 ·have hL:haL sets=[]:=if_neg h0
  have hE:haE sets=stE sets:=if_neg h0
  rw[hL,hE]
  have h0':(stE sets != 0)=true:=by simpa using h0
  generalize stE sets=er at HC h0' ⊢
  clear hL hE h0 h
  go_enter Tryz.func32,Tryz.ntmps32
  go_wp2_with (first|(go_at_call 108;refine HC.out.mono ?_;rintro _ w1 ⟨rfl,hb1⟩)|fail)
  go_ret2
  exact ⟨none,0,rfl,World.ownsRow_nil _ _ _ _,hb1⟩
end
end Go.Proofs.YtmfpdakaeagdpaaGreat
