/- Texts J96 to J97 of this proof, in one file. -/
import Derived.Test.YtmfpdakaeagdpaaGreatW01
import Derived.Test.YtmfpdakaeagdpaaGreatW02
import Derived.Test.YtmfpdakaeagdpaaGreatW03
import Derived.Test.YtmfpdakaeagdpaaGreatW04
import Derived.Test.YtmfpdakaeagdpaaGreatW05
import Derived.Test.YtmfpdakaeagdpaaGreatW06
import Derived.Test.YtmfpdakaeagdpaaGreatW07
import Derived.Test.YtmfpdakaeagdpaaGreatW08
import Derived.Test.YtmfpdakaeagdpaaGreatW09
import Derived.Test.YtmfpdakaeagdpaaGreatW10
import Derived.Test.YtmfpdakaeagdpaaGreatW11
import Derived.Test.YtmfpdakaeagdpaaGreatW12
import Derived.Test.YtmfpdakaeagdpaaGreatW13
import Derived.Test.YtmfpdakaeagdpaaGreatW22
import Derived.Test.YtmfpdakaeagdpaaGreatW23
import Derived.Below
import Derived.BigFrame
import Derived.BigQuiet
import Derived.Deep.CutBlock
import Derived.Deep.CutRange
import Derived.Deep.LoopGhost
import Derived.Deep.Quiet
import Derived.Deep.RegionHeld3
import Derived.DeepKeys4
import Derived.KernelRfl
import Derived.Laws.BitsAllLaws
import Derived.Laws.EntriesVeiled
import Derived.Lib.Hide
import Derived.Lib.SliceRun
import Derived.LoopIn
import Derived.LoopNIn
import Derived.Maps.AppendAt
import Derived.Maps.OwnIn
import Derived.Maps.OwnSet
import Derived.OneCell
import Derived.OrdersHeld
import Derived.OrdersIn
import Derived.OwnWalkIn
import Derived.RangeFuncBound
import Derived.RangeFuncBox
import Derived.RangeFuncCalls
import Derived.RangeFuncLeaves
import Derived.RangeFuncNested
import Derived.RangeFuncWrites
import Derived.Shelf.Abstract
import Derived.Still
import Derived.TacticsIn
import Derived.TacticsInMore
import Derived.Test.YtmfpdakaeagdpaaGreatProg
import Derived.WalkKit
import Derived.WalkLawsBesides
import Derived.WalkSpells
import Derived.WideKeyPair
namespace Go.Proofs.YtmfpdakaeagdpaaGreat
set_option maxRecDepth 100000
set_option maxHeartbeats 16000000
section
open Go Go.RowKit
attribute [local go_sem] over_cell
attribute [local go_sem] Oper.semAt_some
theorem made_zeroF (n:Nat):(madeCells (Value.int .i64 0).cells (n*1)).toList=(List.replicate n (0:Int)).map (Value.int .i64):=by
 rw[List.map_replicate]
 apply List.ext_getElem?
 intro i
 by_cases h:i<n
 ·simp[madeCells,h,Value.cells,Nat.mod_one]
 ·simp[madeCells,h]
structure TmI (w:World) (q p n d ga ca gb cb gl cl:Nat) (vz:Value) (L:Nat) (A B xs:List Int) (W:World):Prop where
 oa:OI W L ga n ca A
 ob:OI W L gb n cb B
 ol:OI W L gl d cl xs
 fq:W.heap[w.heap.size]?=some (.cells #[.int .i64 (q:Int),.int .i64 (p:Int),vz] 136 (0,0))
 b:Below w.heap.size w W
 ne:ga<gl∧gb<gl∧w.heap.size<L
theorem TmI.set {w:World} {q p n d ga ca gb cb gl cl:Nat} {vz:Value} {L:Nat} {A B xs:List Int} {W:World} (h:TmI w q p n d ga ca gb cb gl cl vz L A B xs W) (k:Nat) (x:Int):TmI w q p n d ga ca gb cb gl cl vz L A B (xs.set k x) (W.setCell ⟨gl,k,none⟩ (.int .i64 x)) where
 oa:=h.oa.other (by have:=h.ne;omega) _
 ob:=h.ob.other (by have:=h.ne;omega) _
 ol:=h.ol.set k x
 fq:=q_other h.fq (by have:=h.ne;have:=h.ol.blk;omega) _
 b:=h.b.setCell (p:=⟨gl,k,none⟩) (by have:=h.ne;have:=h.ol.blk;show w.heap.size≤gl;omega) _
 ne:=h.ne
theorem OI.take {W:World} {B g n cap:Nat} {xs:List Int} (h:OI W B g n cap xs) {m:Nat} (hm:m≤n) (hn:n≤17592186044416):IC W (some ⟨g,0,none⟩) m (xs.take m) :=
 ⟨⟨by rw[List.length_take,h.len];omega,by omega⟩,fun k hk=>⟨g,0,rfl,h.blk.2,by rw[Nat.zero_add,List.getElem?_take,if_pos hk];exact (h.at (by omega)).1⟩⟩
theorem TmI.drew {w:World} {q p n d ga ca gb cb gl cl:Nat} {vz:Value} {L:Nat} {A B xs:List Int} {W:World} (h:TmI w q p n d ga ca gb cb gl cl vz L A B xs W):TmI w q p n d ga ca gb cb gl cl vz L A B xs W.drew where
 oa:=h.oa.drew
 ob:=h.ob.drew
 ol:=h.ol.drew
 fq:=h.fq
 b:=h.b.drew
 ne:=h.ne
theorem ftimes_p (q x y:Nat) (hq:q≤16) (hq1:1≤q) (hx:x≤1000) (hy:y≤1000) (vz:Value) (w:World) :
  Calls Tryz.prog 132 #[.agg #[.int .i64 (q:Int),.int .i64 (q:Int),vz],.int .i64 (x:Int),.int .i64 (y:Int)] w fun e w'=>e = .returned (.int .i64 ((x*y % q:Nat):Int))∧Below w.heap.size w w':=by
 have hxy:x*y≤1000*1000:=Nat.mul_le_mul hx hy
 have e1:(x:Int)*(y:Int)=((x*y:Nat):Int):=(Int.natCast_mul _ _).symm
 have e2:((x*y:Nat):Int) % (q:Int)=((x*y % q:Nat):Int):=(Int.natCast_emod _ _).symm
 have hne:(q:Int)≠0:=by omega
 generalize x*y % q=r at e2 ⊢
 generalize x*y=s at e1 e2 hxy
 go_enter Tryz.func132,Tryz.ntmps132
 go_upto_region 1 with fail
 have fsz:(w.alloc (.cells #[.int .i64 (q:Int),.int .i64 (q:Int),vz] 136)).heap.size=w.heap.size+1:=by simp only[World.size_alloc]
 have fB:Below w.heap.size w (w.alloc (.cells #[.int .i64 (q:Int),.int .i64 (q:Int),vz] 136)):=(Below.refl _ _).alloc (Nat.le_refl _) _
 have fq0:(w.alloc (.cells #[.int .i64 (q:Int),.int .i64 (q:Int),vz] 136)).heap[w.heap.size]?=some (.cells #[.int .i64 (q:Int),.int .i64 (q:Int),vz] 136 (0,0)):=by have h:=World.alloc_heap_new w (.cells #[.int .i64 (q:Int),.int .i64 (q:Int),vz] 136);exact h
 generalize (w.alloc (.cells #[.int .i64 (q:Int),.int .i64 (q:Int),vz] 136))=W0 at fsz fB fq0 ⊢
 obtain ⟨x0,x1,x2,xl⟩:=c3_of fq0
 clear fq0 fsz
 go_wp2_with fail
 refine bodyPost_ret (v := .int .i64 (r:Int)) ?_ rfl ⟨rfl,fB⟩
 simp[results,Tryz.f132,go_sem]
 exact e2
theorem ftimes_n (q p n x y:Nat) (zs:List Int) (hne:q≠p) (hpw:p ^ n≤65536) (hp1:2≤p) (hp2:p≤16) (hn1:1≤n) (hn2:n≤4) (hx:x≤1000) (hy:y≤1000) (az:Option Addr) (cz:Nat) (w:World) (hz:IC w az n zs) (hzn:∀i:Nat,0≤zs[i]?.getD 0∧zs[i]?.getD 0≤1) :
  Calls Tryz.prog 132 #[.agg #[.int .i64 (q:Int),.int .i64 (p:Int),.slice az n cz],.int .i64 (x:Int),.int .i64 (y:Int)] w fun e w'=>e = .returned (.int .i64 (elemL p ((redTo zs (convTo (dgtL p n x) (dgtL p n y) n (n*n)) n (n*n)).take n)))∧Below w.heap.size w w':=by
 obtain ⟨i0,hi,hz0,hz1,hz2⟩:=info_parts infoInt
 have hal:=dgtL_len p n x
 have hbl:=dgtL_len p n y
 have hna:∀i:Nat,0≤(dgtL p n x)[i]?.getD 0∧(dgtL p n x)[i]?.getD 0≤15:=fun i=>by have:=dgtL_num p (by omega) n x i;omega
 have hnb:∀i:Nat,0≤(dgtL p n y)[i]?.getD 0∧(dgtL p n y)[i]?.getD 0≤15:=fun i=>by have:=dgtL_num p (by omega) n y i;omega
 have hnn:n*n≤4*4:=Nat.mul_le_mul hn2 hn2
 have H1:=Lib.hid (fun W=>ldig_c q p x az n cz W hp1 hp2 (by omega) (by omega))
 have H2:=Lib.hid (fun W=>ldig_c q p y az n cz W hp1 hp2 (by omega) (by omega))
 generalize dgtL p n x=A at hal hna H1 ⊢
 generalize dgtL p n y=B at hbl hnb H2 ⊢
 have hcn:∀m,m≤n*n→∀i:Nat,0≤(convTo A B n m)[i]?.getD 0∧(convTo A B n m)[i]?.getD 0≤3600:=fun m hm i=>by
  have:=convTo_num (B:=15) (by omega) hna hnb hn1 m hm i
  have h3:(m:Int)*(15*15)≤16*(15*15):=Int.mul_le_mul_of_nonneg_right (by omega) (by omega)
  omega
 obtain ⟨C,hC⟩:∃C,C=convTo A B n (n*n):=⟨_,rfl⟩
 rw[← hC]
 have hrn:∀m,m≤n*n→∀i:Nat,-300000000≤(redTo zs C n m)[i]?.getD 0∧(redTo zs C n m)[i]?.getD 0≤300000000:=fun m hm i=>by
  have:=redTo_num (z:=zs) (l:=C) (n:=n) (B:=3600) (by rw[hC];exact convTo_len A B n (n*n)) hzn (fun i=>by have:=hcn (n*n) (Nat.le_refl _) i;rw[← hC] at this;omega) hn1 m hm i
  have h2:2 ^ m≤2 ^ 16:=Nat.pow_le_pow_right (by omega) (by omega)
  have h3:(2:Int) ^ m≤65536:=by
   have:=Int.ofNat_le.2 h2
   simpa using this
  have h4:(3600:Int)*2 ^ m≤3600*65536:=Int.mul_le_mul_of_nonneg_left h3 (by omega)
  omega
 obtain ⟨R,hR⟩:∃R,R=elemL p ((redTo zs C n (n*n)).take n):=⟨_,rfl⟩
 rw[← hR]
 have HR:=Lib.hid hR
 have HC:=Lib.hid hC
 have HNA:=Lib.hid hna
 have HNB:=Lib.hid hnb
 have HZN:=Lib.hid hzn
 have HCN:=Lib.hid hcn
 have HRN:=Lib.hid hrn
 have HAL:=Lib.hid hal
 have HBL:=Lib.hid hbl
 have HPW:=Lib.hid hpw
 have HZ:=Lib.hid hz
 have hneI:¬(q:Int)=(p:Int):=by omega
 clear hpw hR hC hal hbl hna hnb hzn hcn hrn hz hnn
 go_enter Tryz.func132,Tryz.ntmps132
 go_upto_region 1 with fail
 have fsz:(w.alloc (.cells #[.int .i64 (q:Int),.int .i64 (p:Int),.slice az n cz] 136)).heap.size=w.heap.size+1:=by simp only[World.size_alloc]
 have fB:Below w.heap.size w (w.alloc (.cells #[.int .i64 (q:Int),.int .i64 (p:Int),.slice az n cz] 136)):=(Below.refl _ _).alloc (Nat.le_refl _) _
 have fq0:(w.alloc (.cells #[.int .i64 (q:Int),.int .i64 (p:Int),.slice az n cz] 136)).heap[w.heap.size]?=some (.cells #[.int .i64 (q:Int),.int .i64 (p:Int),.slice az n cz] 136 (0,0)):=by have h:=World.alloc_heap_new w (.cells #[.int .i64 (q:Int),.int .i64 (p:Int),.slice az n cz] 136);exact h
 generalize (w.alloc (.cells #[.int .i64 (q:Int),.int .i64 (p:Int),.slice az n cz] 136))=W0 at fsz fB fq0 ⊢
 have FB:=Lib.hid fB
 have Q0:=Lib.hid fq0
 obtain ⟨x0,x1,x2,xl⟩:=c3_of fq0
 have hsz:w.heap.size+1=W0.heap.size:=fsz.symm
 clear fq0 fsz fB
 go_upto_region 3 with fail
 refine wp_region_S (fun w'=>∃u,w'=over (W0) u) [7,6,5] [(0,0),(0,1),(0,3),(0,4),(1,2),(2,5),(2,6),(2,7)] (by kernel_rfl) (by kernel_rfl) (by exact ⟨_,below_over (by repeat (first|assumption|exact Below.refl _ _|refine keep_drew ?_|refine keep_alloc ?_ _|refine keep_trans ?_ (by assumption)))⟩) ?_
 dsimp only[pickOps,nthOp]
 repeat (first|(refine wpS_skip rfl (fun K hK=>?_);go_big_quiet_op;refine hK _ ?_;clear hK K)|(refine wpS_quiet rfl rfl (fun K hK=>?_);go_big_quiet_op;refine hK _ ?_;clear hK K)|(refine wpS_loud ?_;go_wp2_with (first|(go_at_call 169;with_reducible refine (H1.out _).mono ?_;rintro _ w1 ⟨a1,c1,rfl,hown1,hb1⟩)|(go_at_call 169;with_reducible refine (H2.out _).mono ?_;rintro _ w2 ⟨a2,c2,rfl,hown2,hb2⟩)|fail);refine ⟨?_,?_⟩;focus (exact ⟨_,below_over (by repeat (first|assumption|exact Below.refl _ _|refine keep_drew ?_|refine keep_alloc ?_ _|refine keep_trans ?_ (by assumption)))⟩)))
 refine wpS_late _ _ _ rfl ?_
 dsimp only[List.map]
 go_wp2_with (first|(go_at_call 169;with_reducible refine (H1.out _).mono ?_;rintro _ w1 ⟨a1,c1,rfl,hown1,hb1⟩)|(go_at_call 169;with_reducible refine (H2.out _).mono ?_;rintro _ w2 ⟨a2,c2,rfl,hown2,hb2⟩)|fail)
 refine NoPanic.normal ?_
 have hW2:Below W0.heap.size W0 w2:=by (repeat (first|assumption|exact Below.refl _ _|refine keep_drew ?_|refine keep_alloc ?_ _|refine keep_trans ?_ (by assumption)))
 have hW1:Below W0.heap.size W0 w1:=by (repeat (first|assumption|exact Below.refl _ _|refine keep_drew ?_|refine keep_alloc ?_ _|refine keep_trans ?_ (by assumption)))
 obtain ⟨ga,rfl,OA⟩:=OI.of hown1 hn1
 obtain ⟨gb,rfl,OB⟩:=OI.of hown2 hn1
 have OA2:=(OA.keep hb2).base (show W0.heap.size≤W0.drew.heap.size by simp)
 have OB2:=OB.base hW1.size
 have q2:=keepq hW2 Q0.out
 have hB2:=keep_trans FB.out hW2
 clear x0 x1 x2 xl
 obtain ⟨x0,x1,x2,xl⟩:=c3_of q2
 obtain ⟨d,hd⟩:∃d,d=2*n:=⟨_,rfl⟩
 have hd2:(2:Int)*(n:Int)=(d:Int):=by omega
 have hd8:d≤8:=by omega
 have HD2:=Lib.hid hd
 clear hd
 clear hown1 hown2 hb1 hb2 OA OB hW1
 go_wp2_with (first|(refine wpList_make_full _ rfl _ _ 22 rfl w2.heap.size 3 i0 (.int .i64 0) 1 Tryz.underlying22 hi hz0 hz1 _ _ _ _ d rfl rfl (by simp) (by simp) (by rw[hz2];omega) (by unfold maxLen;omega) (Nat.le_refl _) ?_;intro W4 hown4 hgr4)|fail)
 rw[made_zeroF d] at hown4
 have hb4:Below w2.heap.size w2 W4:=(Below.refl w2.heap.size w2).grown hgr4 (Nat.le_refl _) (fun k e=>by cases e)
 have OL:OI W4 w2.heap.size w2.heap.size d d (List.replicate d 0):=⟨by simp,hown4⟩
 have hga:=OA2.blk
 have hgb:=OB2.blk
 have hs2:=hW2.size
 have T0:TmI w q p n d ga c1 gb c2 w2.heap.size d (.slice az n cz) W0.heap.size A B (convTo A B n (0*n)) W4:=⟨OA2.keep hb4,OB2.keep hb4,by rw[Nat.zero_mul,show convTo A B n 0=List.replicate d 0 by rw[HD2.out];rfl];exact OL.base hs2,keepq hb4 q2,keep_trans hB2 hb4,by omega⟩
 have hgl:W0.heap.size≤w2.heap.size:=hs2
 generalize w2.heap.size=gl at *
 clear hown4 hgr4 OL OA2 OB2 hga hgb q2 hB2 hb4 hW2 x0 x1 x2 xl
 go_loopw [11,12,13,14,43,50] (fun _ _ _ _ s43 _ wr=>∃k:Nat,k≤n∧s43 = .int .i64 (k:Int)∧Hid (TmI w q p n d ga c1 gb c2 gl d (.slice az n cz) W0.heap.size A B (convTo A B n (k*n)) wr)) (fun _ _ _ _ s43 _ _=>n - (intOf s43).toNat)
 case atStart=>exact ⟨0,by omega,rfl,T0⟩
 case round =>
  obtain ⟨k,hk,rfl,hT⟩:=hrel
  by_cases hlt:k<n
  ·have hki:(k:Int)<(n:Int):=by omega
   obtain ⟨u0,u1,u2⟩:=hT.out.oa.at hlt
   have nA:=HNA.out k
   obtain ⟨av,hav⟩:∃av,A[k]?.getD 0=av:=⟨_,rfl⟩
   rw[hav] at u0 nA
   have HAV:=Lib.hid hav
   clear hav
   go_wp2_with fail
   go_loopw [13,14,50] (fun _ _ s50 wr=>∃j:Nat,j≤n∧s50 = .int .i64 (j:Int)∧Hid (TmI w q p n d ga c1 gb c2 gl d (.slice az n cz) W0.heap.size A B (convTo A B n (k*n+j)) wr)) (fun _ _ s50 _=>n - (intOf s50).toNat)
   case atStart=>exact ⟨0,by omega,rfl,hT⟩
   case round =>
    obtain ⟨j,hj,rfl,hT2⟩:=hrel
    by_cases hlt2:j<n
    ·have hji:(j:Int)<(n:Int):=by omega
     obtain ⟨v0,v1,v2⟩:=hT2.out.ob.at hlt2
     obtain ⟨e,he⟩:∃e,e=k+j:=⟨_,rfl⟩
     have hei:(k:Int)+(j:Int)=(e:Int):=by omega
     have hed:e<d:=by have:=HD2.out;omega
     obtain ⟨z0,z1,z2⟩:=hT2.out.ol.at hed
     have nB:=HNB.out j
     have hgc:=gcell_div (n:=n) (i:=k) hlt2
     have hkn:k*n+j≤n*n:=Nat.le_of_lt (gcell_lt hlt hlt2)
     have nC:=HCN.out _ hkn e
     have HS:Hid ((convTo A B n (k*n+j)).set e ((convTo A B n (k*n+j))[e]?.getD 0+av*B[j]?.getD 0)=convTo A B n (k*n+(j+1))):=by
      unfold Hid
      rw[show k*n+(j+1)=k*n+j+1 by omega,convTo_succ,hgc.1,hgc.2,HAV.out,he]
     generalize (convTo A B n (k*n+j))[e]?.getD 0=cv at z0 nC HS
     generalize B[j]?.getD 0=bv at v0 nB HS
     have hm:0≤av*bv∧av*bv≤15*15:=⟨Int.mul_nonneg nA.1 nB.1,Int.le_trans (Int.mul_le_mul_of_nonneg_right nA.2 nB.1) (Int.mul_le_mul_of_nonneg_left nB.2 (by omega))⟩
     obtain ⟨mv,hmv⟩:∃mv,av*bv=mv:=⟨_,rfl⟩
     rw[hmv] at hm HS
     have k1:=Lib.hid (hT2.out.set e (cv+mv))
     rw[HS.out] at k1
     clear he hgc hkn
     go_wp2_with fail
     go_roundw
     case rel=>exact ⟨j+1,by omega,by go_num,k1⟩
     case measure=>simp[intOf];omega
    ·have e:j=n:=by omega
     subst e
     go_wp2_with fail
     go_roundw
     case rel=>exact ⟨k+1,by omega,by go_num,by have h:=hT2.out;rw[show k*j+j=(k+1)*j by rw[Nat.succ_mul]] at h;exact h⟩
     case measure=>simp[intOf];omega
  ·have e:k=n:=by omega
   subst e
   have T1:=hT.out
   rw[← HC.out] at T1
   have HT1:=Lib.hid T1
   clear hT T0 T1
   go_wp2_with fail
   go_loopw [15,16,17,79] (fun s15 _ _ _ wr=>∃i:Nat,i≤k∧s15 = .int .i64 ((d:Int) - 1 - (i:Int))∧Hid (TmI w q p k d ga c1 gb c2 gl d (.slice az k cz) W0.heap.size A B (redTo zs C k (i*k)) wr)) (fun s15 _ _ _ _=>(intOf s15+1).toNat)
   case atStart=>exact ⟨0,by omega,by have:=HD2.out;go_num,by rw[Nat.zero_mul];exact HT1.out⟩
   case round =>
    obtain ⟨i,hik,rfl,hT⟩:=hrel
    by_cases hlt:i<k
    ·obtain ⟨e1,he1⟩:∃e1,e1=2*k - 1 - i:=⟨_,rfl⟩
     have he1i:(d:Int) - 1 - (i:Int)=(e1:Int):=by have:=HD2.out;omega
     have he1k:(k:Int)≤(e1:Int):=by omega
     have he1d:e1<d:=by have:=HD2.out;omega
     have HE1:=Lib.hid he1
     rw[he1i]
     have HE1I:=Lib.hid he1i
     clear he1 he1i
     obtain ⟨x0,x1,x2,xl⟩:=c3_of hT.out.fq
     go_wp2_with fail
     go_loopw [16,17,79] (fun _ _ s79 wr=>∃j:Nat,j≤k∧s79 = .int .i64 (j:Int)∧Hid (TmI w q p k d ga c1 gb c2 gl d (.slice az k cz) W0.heap.size A B (redTo zs C k (i*k+j)) wr)) (fun _ _ s79 _=>k - (intOf s79).toNat)
     case atStart=>exact ⟨0,by omega,rfl,hT⟩
     case round =>
      obtain ⟨j,hj,rfl,hT2⟩:=hrel
      by_cases hlt2:j<k
      ·have hji:(j:Int)<(k:Int):=by omega
       obtain ⟨zb,zo,hza,hzl,hzc⟩:=(HZ.out.mono hT2.out.b).2 j hlt2
       cases hza
       obtain ⟨e2,he2⟩:∃e2,e2=e1 - k+j:=⟨_,rfl⟩
       have he2a:(e1:Int) - (k:Int)=((e1 - k:Nat):Int):=by omega
       have he2b:((e1 - k:Nat):Int)+(j:Int)=(e2:Int):=by omega
       have he2d:e2<d:=by have:=HD2.out;have:=HE1.out;omega
       have he3:e1 - k≤8:=by omega
       obtain ⟨z0,z1,z2⟩:=hT2.out.ol.at he2d
       obtain ⟨y0,y1,y2⟩:=hT2.out.ol.at he1d
       have nZ:=HZN.out j
       have hgc:=gcell_div (n:=k) (i:=i) hlt2
       have hkn:i*k+j≤k*k:=Nat.le_of_lt (gcell_lt hlt hlt2)
       have nC:=HRN.out _ hkn e2
       have nD:=HRN.out _ hkn e1
       have HS:Hid ((redTo zs C k (i*k+j)).set e2 ((redTo zs C k (i*k+j))[e2]?.getD 0 - (redTo zs C k (i*k+j))[e1]?.getD 0*zs[j]?.getD 0)=redTo zs C k (i*k+(j+1))):=by
        unfold Hid
        rw[show i*k+(j+1)=i*k+j+1 by omega,redTo_succ,hgc.1,hgc.2,← HE1.out,← he2]
       generalize (redTo zs C k (i*k+j))[e2]?.getD 0=cv at z0 nC HS
       generalize (redTo zs C k (i*k+j))[e1]?.getD 0=dv at y0 nD HS
       generalize zs[j]?.getD 0=zv at hzc nZ HS
       have hm : -300000000≤dv*zv∧dv*zv≤300000000:=by
        rcases (show zv=0∨zv=1 by omega) with h|h
        ·rw[h];omega
        ·rw[h];omega
       obtain ⟨mv,hmv⟩:∃mv,dv*zv=mv:=⟨_,rfl⟩
       rw[hmv] at hm HS
       have k1:=Lib.hid (hT2.out.set e2 (cv - mv))
       rw[HS.out] at k1
       generalize e1 - k=e3 at he2a he2b he3
       clear hgc hkn he2
       go_wp2_with fail
       refine wp_region_S (fun w'=>∃u,w'=over (wr) u) [16] [(0,0),(0,1),(0,2),(0,3),(0,4),(0,5),(0,6),(0,7),(0,8),(0,9),(0,10),(0,11),(0,12),(0,13),(0,14),(0,15),(2,16)] (by kernel_rfl) (by kernel_rfl) (by exact ⟨_,below_over (by repeat (first|assumption|exact Below.refl _ _|refine keep_drew ?_|refine keep_alloc ?_ _|refine keep_trans ?_ (by assumption)))⟩) ?_
       dsimp only[pickOps,nthOp]
       repeat (first|(refine wpS_skip rfl (fun K hK=>?_);go_big_quiet_op;refine hK _ ?_;clear hK K)|(refine wpS_quiet rfl rfl (fun K hK=>?_);go_big_quiet_op;refine hK _ ?_;clear hK K))
       refine wpS_late _ _ _ rfl ?_
       dsimp only[List.map]
       go_wp2
       refine NoPanic.normal ?_
       go_wp2_with fail
       go_roundw
       case rel=>exact ⟨j+1,by omega,by go_num,k1.out.drew⟩
       case measure=>simp[intOf];omega
      ·have e:j=k:=by omega
       subst e
       have HT4:Hid (TmI w q p j d ga c1 gb c2 gl d (.slice az j cz) W0.heap.size A B (redTo zs C j ((i+1)*j)) wr):=by have h:=hT2.out;rw[show i*j+j=(i+1)*j by rw[Nat.succ_mul]] at h;exact h
       go_wp2_with fail
       go_roundw
       case rel=>exact ⟨i+1,by omega,by have:=HE1I.out;go_num,HT4⟩
       case measure=>simp[intOf] <;> omega
    ·have e:i=k:=by omega
     subst e
     have hlow:¬(i:Int)≤(d:Int) - 1 - (i:Int):=by have:=HD2.out;omega
     have HE:=Lib.hid (fun W hb=>elem_c q p (.slice az i cz) (some ⟨gl,0,none⟩) i d ((redTo zs C i (i*i)).take i) W ((hT.out.ol.take (by have:=HD2.out;omega) (by omega)).mono hb) hn1 (by omega) hp2 HPW.out (by omega))
     rw[← HR.out] at HE
     obtain ⟨x0,x1,x2,xl⟩:=c3_of hT.out.fq
     have hid:(i:Int)≤(d:Int):=by have:=HD2.out;omega
     go_wp2_with fail
     refine wp_region_S (fun w'=>∃u,w'=over (wr) u) [5,4] [(0,0),(0,1),(0,2),(0,3),(2,4),(2,5)] (by kernel_rfl) (by kernel_rfl) (by exact ⟨_,below_over (by repeat (first|assumption|exact Below.refl _ _|refine keep_drew ?_|refine keep_alloc ?_ _|refine keep_trans ?_ (by assumption)))⟩) ?_
     dsimp only[pickOps,nthOp]
     repeat (first|(refine wpS_skip rfl (fun K hK=>?_);go_big_quiet_op;refine hK _ ?_;clear hK K)|(refine wpS_quiet rfl rfl (fun K hK=>?_);go_big_quiet_op;refine hK _ ?_;clear hK K))
     refine wpS_late _ _ _ rfl ?_
     dsimp only[List.map]
     go_wp2_with (first|(go_at_call 170;refine (HE.out _ (by (repeat (first|assumption|exact Below.refl _ _|refine keep_drew ?_|refine keep_alloc ?_ _|refine keep_trans ?_ (by assumption))))).mono ?_;rintro _ w9 ⟨rfl,hb9⟩)|fail)
     refine NoPanic.normal ?_
     go_wp2_with fail
     refine bodyPost_ret (v := .int .i64 R) ?_ rfl ⟨rfl,keep_trans hT.out.b (show Below wr.heap.size wr w9 by (repeat (first|assumption|exact Below.refl _ _|refine keep_drew ?_|refine keep_alloc ?_ _|refine keep_trans ?_ (by assumption))))⟩
     simp[results,Tryz.f132,go_sem]
theorem ftimes_c (q x y:Nat) (hq:q≤16) (hf:fldB q=true) (hx:x≤1000) (hy:y≤1000) (az:Option Addr) (cz:Nat) (w:World) (hz:IC w az (fldZ q).length (fldZ q)) :
  Calls Tryz.prog 132 #[.agg #[.int .i64 (q:Int),.int .i64 (fldP q:Int),.slice az (fldZ q).length cz],.int .i64 (x:Int),.int .i64 (y:Int)] w fun e w'=>e = .returned (.int .i64 (fTimes q x y))∧Below w.heap.size w w':=by
 obtain ⟨hpw,hp1,hp2,hn1,hn2⟩:=fld_pow hq hf
 by_cases h:fldP q=q
 ·have hT:fTimes q x y=((x*y % q:Nat):Int):=if_pos h
  rw[hT,h]
  exact ftimes_p q x y hq (by omega) hx hy _ w
 ·unfold fTimes
  rw[if_neg h]
  exact ftimes_n q (fldP q) (fldZ q).length x y (fldZ q) (fun e=>h e.symm) (by omega) hp1 hp2 hn1 hn2 hx hy az cz w hz (fldZ_num q)
end
section
open Go Go.RowKit
attribute [local go_sem] over_cell
attribute [local go_sem] Oper.semAt_some
theorem IC.st3 {W:World} {a:Option Addr} {n b:Nat} {xs:List Int} {x0 x1 x2:Value} (h:IC W a n xs) (hne:∀b2 off,a=some ⟨b2,off,none⟩→b2≠b):IC (((W.setCell ⟨b,0,none⟩ x0).setCell ⟨b,1,none⟩ x1).setCell ⟨b,2,none⟩ x2) a n xs :=
 ((h.set_other hne).set_other hne).set_other hne
theorem ne_of_own {W:World} {B b n c:Nat} {a:Option Addr} {T:TypeId} {xs:List Value} (h:W.ownsRow B T 1 (.slice a n c) n xs) (hb:b<B):∀b2 off,a=some ⟨b2,off,none⟩→b2≠b:=by
 rintro b2 off rfl e
 rcases h.2 with ⟨h2,_⟩|⟨g,cap,cur,hv,hg,_⟩
 ·cases h2
 ·simp only[Value.slice.injEq,Option.some.injEq,Addr.mk.injEq] at hv
  omega
theorem ckfield_ok (N:Nat) (h1:1≤N) (h2:N≤16) (w:World):Calls Tryz.prog 130 #[.int .i64 (N:Int)] w fun e w'=>∃a c,e = .returned (.tuple #[.agg #[.int .i64 (N:Int),.int .i64 (fldP N:Int),.slice a (fldZ N).length c],.int .i64 (whenV (!fldB N) 15)])∧IC w' a (fldZ N).length (fldZ N)∧Below w.heap.size w w':=by
 have HO:=Lib.hid (fun W=>corder_c (N:Int) W)
 have ho:ordE (N:Int)=0:=by unfold ordE;rw[show decide ((1:Int)≤(N:Int))=true by simp;omega,show decide ((N:Int)≤16)=true by simp;omega];rfl
 rw[ho] at HO
 have HF:=Lib.hid (fun W=>fof_c N W h2)
 have hzl:(fldZ N).length≤17592186044416:=by
  have:∀n,n<17→(fldZ n).length≤100:=by decide
  have:=this N (by omega)
  omega
 generalize fldP N=p at HF ⊢
 generalize fldZ N=zs at HF hzl ⊢
 generalize fldB N=b at HF ⊢
 have HW:=Lib.hid (fun W=>twhen_c (!b) 15 W)
 clear ho h1 h2
 go_enter Tryz.func130,Tryz.ntmps130
 go_upto_region 1 with fail
 have fsz:(w.alloc (.cells #[.int .i64 0,.int .i64 0,.slice none 0 0] 136)).heap.size=w.heap.size+1:=by simp only[World.size_alloc]
 have fB:Below w.heap.size w (w.alloc (.cells #[.int .i64 0,.int .i64 0,.slice none 0 0] 136)):=(Below.refl _ _).alloc (Nat.le_refl _) _
 have fq0:(w.alloc (.cells #[.int .i64 0,.int .i64 0,.slice none 0 0] 136)).heap[w.heap.size]?=some (.cells #[.int .i64 0,.int .i64 0,.slice none 0 0] 136 (0,0)):=by have h:=World.alloc_heap_new w (.cells #[.int .i64 0,.int .i64 0,.slice none 0 0] 136);exact h
 generalize (w.alloc (.cells #[.int .i64 0,.int .i64 0,.slice none 0 0] 136))=W0 at fsz fB fq0 ⊢
 have FB:=Lib.hid fB
 have Q0:=Lib.hid fq0
 have hs0:w.heap.size+1=W0.heap.size:=fsz.symm
 clear fB fq0 fsz
 go_upto_region 5 with (first|(go_at_call 125;refine (HO.out _).mono ?_;rintro _ w1 ⟨rfl,rfl⟩)|(go_at_call 168;refine (HF.out _).mono ?_;rintro _ w2 ⟨a2,c2,rfl,hown2,hb2⟩)|fail)
 have q2:=keepq hb2 Q0.out
 have hB2:=keep_trans FB.out hb2
 have hs2:=hb2.size
 have gsz:(w2.alloc (.cells #[.int .i64 (N:Int),.int .i64 (p:Int),.slice a2 zs.length c2] 136)).heap.size=w2.heap.size+1:=by simp only[World.size_alloc]
 have gB:Below w2.heap.size w2 (w2.alloc (.cells #[.int .i64 (N:Int),.int .i64 (p:Int),.slice a2 zs.length c2] 136)):=(Below.refl _ _).alloc (Nat.le_refl _) _
 have gq0:(w2.alloc (.cells #[.int .i64 (N:Int),.int .i64 (p:Int),.slice a2 zs.length c2] 136)).heap[w2.heap.size]?=some (.cells #[.int .i64 (N:Int),.int .i64 (p:Int),.slice a2 zs.length c2] 136 (0,0)):=by have h:=World.alloc_heap_new w2 (.cells #[.int .i64 (N:Int),.int .i64 (p:Int),.slice a2 zs.length c2] 136);exact h
 generalize (w2.alloc (.cells #[.int .i64 (N:Int),.int .i64 (p:Int),.slice a2 zs.length c2] 136))=W3 at gsz gB gq0 ⊢
 have q3:=keepq gB q2
 have hown3:W3.ownsRow W0.heap.size 3 1 (.slice a2 zs.length c2) zs.length (zs.map (Value.int .i64)):=owns_keep hown2 (fun k _ hl=>gB.block k hl)
 have hB3:=keep_trans hB2 gB
 have hI3:=(IC.of_owns hown3 hzl).1
 have hne3:=ne_of_own hown3 (b:=w.heap.size) (by omega)
 obtain ⟨x0,x1,x2,xl⟩:=c3_of gq0
 obtain ⟨y0,y1,y2,yl⟩:=c3_of q3
 obtain ⟨yf0,yf1,yf2⟩:=f3_of q3
 have Q3:=Lib.hid q3
 have HI3:=Lib.hid hI3
 have HNE:=Lib.hid hne3
 have HB3:=Lib.hid hB3
 clear hown2 hown3 hb2 q2 hB2 gB gq0 gsz q3 hI3 hne3 hB3 hzl
 refine wp_region_S (fun w'=>∃u,w'=over (W3) u) [5,4] [(0,0),(0,1),(0,2),(1,3),(2,4),(2,5)] (by kernel_rfl) (by kernel_rfl) (by exact ⟨_,below_over (by repeat (first|assumption|exact Below.refl _ _|refine keep_drew ?_|refine keep_alloc ?_ _|refine keep_trans ?_ (by assumption)))⟩) ?_
 dsimp only[pickOps,nthOp]
 repeat (first|(refine wpS_skip rfl (fun K hK=>?_);go_big_quiet_op;refine hK _ ?_;clear hK K)|(refine wpS_quiet rfl rfl (fun K hK=>?_);go_big_quiet_op;refine hK _ ?_;clear hK K)|(refine wpS_loud ?_;go_wp2_with (first|(go_at_call 93;refine (HW.out _).mono ?_;rintro _ w5 ⟨rfl,rfl⟩)|fail);refine ⟨?_,?_⟩;focus (exact ⟨_,below_over (by repeat (first|assumption|exact Below.refl _ _|refine keep_drew ?_|refine keep_alloc ?_ _|refine keep_trans ?_ (by assumption)))⟩)))
 refine wpS_late _ _ _ rfl ?_
 dsimp only[List.map]
 go_wp2_with (first|(go_at_call 93;refine (HW.out _).mono ?_;rintro _ w5 ⟨rfl,rfl⟩)|fail)
 refine NoPanic.normal ?_
 have g3:=st3_q (x0 := .int .i64 (N:Int)) (x1 := .int .i64 (p:Int)) (x2 := .slice a2 zs.length c2) Q3.out
 have hb3:=(st3_below (x0 := .int .i64 (N:Int)) (x1 := .int .i64 (p:Int)) (x2 := .slice a2 zs.length c2) (b:=w.heap.size) HB3.out (by omega)).drew
 have hi3:=HI3.out.st3 (x0 := .int .i64 (N:Int)) (x1 := .int .i64 (p:Int)) (x2 := .slice a2 zs.length c2) HNE.out
 obtain ⟨z0,z1,z2,zl⟩:=c3_of g3
 have HI4:=Lib.hid hi3
 have HB4:=Lib.hid hb3
 clear hi3 hb3 g3
 go_wp2_with fail
 refine bodyPost_ret (v := .tuple #[.agg #[.int .i64 (N:Int),.int .i64 (p:Int),.slice a2 zs.length c2],.int .i64 (whenV (!b) 15)]) ?_ rfl ⟨a2,c2,rfl,HI4.out,HB4.out⟩
 simp[results,Tryz.f130,go_sem,z0,z1,z2]
def fadL (N:Nat):List Int:=madeTo N (fun i j=>fAdd N i j) (N*N)
def ftiL (N:Nat):List Int:=madeTo N (fun i j=>fTimes N i j) (N*N)
def famL (N:Nat):List (List Int):=(List.range (N - 1)).map fun k=>madeTo N (fun i j=>fAdd N (fTimes N (k+1) i).toNat j) (N*N)
theorem two_fin {W w:World} {b B:Nat} {r:Int} {T:TypeId} {u0 u1 u2 v0 v1 v2 s1 s2:Value} (q0:W.heap[b]?=some (.cells #[u0,u1,u2] T (0,0))) (q1:W.heap[b+1]?=some (.cells #[v0,v1,v2] T (0,0))) (hb:Below B w W) (hB:B≤b) :
  (((((((W.setCell ⟨b,0,none⟩ (.int .i64 r)).setCell ⟨b,1,none⟩ (.int .i64 r)).setCell ⟨b,2,none⟩ s1).setCell ⟨b+1,0,none⟩ (.int .i64 r)).setCell ⟨b+1,1,none⟩ (.int .i64 r)).setCell ⟨b+1,2,none⟩ s2).heap[b]?=some (.cells #[.int .i64 r,.int .i64 r,s1] T (0,0))) ∧
  (((((((W.setCell ⟨b,0,none⟩ (.int .i64 r)).setCell ⟨b,1,none⟩ (.int .i64 r)).setCell ⟨b,2,none⟩ s1).setCell ⟨b+1,0,none⟩ (.int .i64 r)).setCell ⟨b+1,1,none⟩ (.int .i64 r)).setCell ⟨b+1,2,none⟩ s2).heap[b+1]?=some (.cells #[.int .i64 r,.int .i64 r,s2] T (0,0))) ∧
  Below B w ((((((W.setCell ⟨b,0,none⟩ (.int .i64 r)).setCell ⟨b,1,none⟩ (.int .i64 r)).setCell ⟨b,2,none⟩ s1).setCell ⟨b+1,0,none⟩ (.int .i64 r)).setCell ⟨b+1,1,none⟩ (.int .i64 r)).setCell ⟨b+1,2,none⟩ s2):=by
 refine ⟨q_other (q_other (q_other (st3_q q0) (by omega) _) (by omega) _) (by omega) _,st3_q (q_other (q_other (q_other q1 (by omega) _) (by omega) _) (by omega) _),st3_below (st3_below hb hB) (by omega)⟩
def TwoG (w:World) (r:Int) (cs ds:List Int) (er:Int) (e:Ending) (w':World):Prop :=
 ∃a c a2 c2,e = .returned (.tuple #[.agg #[.int .i64 r,.int .i64 r,.slice a cs.length c],.agg #[.int .i64 r,.int .i64 r,.slice a2 ds.length c2],.int .i64 er])∧IC w' a cs.length cs∧IC w' a2 ds.length ds∧cs.length≤c∧ds.length≤c2∧Below w.heap.size w w'
theorem field_bad (n:Int) (w:World) (er:Int) (h0:er≠0) (HK:∀W,Below w.heap.size w W→Calls Tryz.prog 130 #[.int .i64 n] W fun e w'=>∃(x0 x1:Int) (a:Option Addr) (m c:Nat),e = .returned (.tuple #[.agg #[.int .i64 x0,.int .i64 x1,.slice a m c],.int .i64 er])∧Below W.heap.size W w') :
  Calls Tryz.prog 56 #[.int .i64 n] w (TwoG w 0 [] [] er):=by
 have HK:=Lib.hid HK
 have h0':(er != 0)=true:=by simpa using h0
 clear h0
 go_enter Tryz.func56,Tryz.ntmps56
 go_upto_region 1 with fail
 have fsz:((w.alloc (.cells #[.int .i64 0,.int .i64 0,.slice none 0 0] 24)).alloc (.cells #[.int .i64 0,.int .i64 0,.slice none 0 0] 24)).heap.size=w.heap.size+2:=by simp only[World.size_alloc] <;> omega
 have fB:Below w.heap.size w ((w.alloc (.cells #[.int .i64 0,.int .i64 0,.slice none 0 0] 24)).alloc (.cells #[.int .i64 0,.int .i64 0,.slice none 0 0] 24)):=((Below.refl _ _).alloc (Nat.le_refl _) _).alloc (by simp only[World.size_alloc];omega) _
 have fq0:((w.alloc (.cells #[.int .i64 0,.int .i64 0,.slice none 0 0] 24)).alloc (.cells #[.int .i64 0,.int .i64 0,.slice none 0 0] 24)).heap[w.heap.size]?=some (.cells #[.int .i64 0,.int .i64 0,.slice none 0 0] 24 (0,0)):=by have h:=World.alloc_heap_new w (.cells #[.int .i64 0,.int .i64 0,.slice none 0 0] 24);exact (Below.heap_alloc _ _ _ (by simp only[World.size_alloc];omega)).trans (h)
 have fq1:((w.alloc (.cells #[.int .i64 0,.int .i64 0,.slice none 0 0] 24)).alloc (.cells #[.int .i64 0,.int .i64 0,.slice none 0 0] 24)).heap[w.heap.size+1]?=some (.cells #[.int .i64 0,.int .i64 0,.slice none 0 0] 24 (0,0)):=by have h:=World.alloc_heap_new (w.alloc (.cells #[.int .i64 0,.int .i64 0,.slice none 0 0] 24)) (.cells #[.int .i64 0,.int .i64 0,.slice none 0 0] 24);simp only[World.size_alloc] at h;exact h
 generalize ((w.alloc (.cells #[.int .i64 0,.int .i64 0,.slice none 0 0] 24)).alloc (.cells #[.int .i64 0,.int .i64 0,.slice none 0 0] 24))=W0 at fsz fB fq0 fq1 ⊢
 have Q0:=Lib.hid fq0
 have Q1:=Lib.hid fq1
 have FB:=Lib.hid fB
 have hs0:w.heap.size+2=W0.heap.size:=fsz.symm
 clear fq0 fq1 fB fsz
 go_upto_region 2 with (first|(go_at_call 130;refine (HK.out _ FB.out).mono ?_;rintro _ w2 ⟨x0,x1,a5,m5,c5,rfl,hb2⟩)|fail)
 have q0:=keepq hb2 Q0.out
 have q1:=keepq hb2 Q1.out
 have hB2:=keep_trans FB.out hb2
 have hs2:=hb2.size
 have gsz:(w2.alloc (.cells #[.int .i64 x0,.int .i64 x1,.slice a5 m5 c5] 136)).heap.size=w2.heap.size+1:=by simp only[World.size_alloc]
 have gB:Below w2.heap.size w2 (w2.alloc (.cells #[.int .i64 x0,.int .i64 x1,.slice a5 m5 c5] 136)):=(Below.refl _ _).alloc (Nat.le_refl _) _
 have gq0:(w2.alloc (.cells #[.int .i64 x0,.int .i64 x1,.slice a5 m5 c5] 136)).heap[w2.heap.size]?=some (.cells #[.int .i64 x0,.int .i64 x1,.slice a5 m5 c5] 136 (0,0)):=by have h:=World.alloc_heap_new w2 (.cells #[.int .i64 x0,.int .i64 x1,.slice a5 m5 c5] 136);exact h
 generalize (w2.alloc (.cells #[.int .i64 x0,.int .i64 x1,.slice a5 m5 c5] 136))=W3 at gsz gB gq0 ⊢
 have r0:=keepq gB q0
 have r1:=keepq gB q1
 have hB3:=keep_trans hB2 gB
 obtain ⟨y0,y1,y2,yl⟩:=c3_of r0
 obtain ⟨yf0,yf1,yf2⟩:=f3_of r0
 obtain ⟨u0,u1,u2,ul⟩:=c3_of r1
 obtain ⟨uf0,uf1,uf2⟩:=f3_of r1
 have HT:=Lib.hid (two_fin (r:=0) (s1 := .slice none 0 0) (s2 := .slice none 0 0) r0 r1 hB3 (Nat.le_refl _))
 clear gsz gq0 gB hb2 hB2 hB3 q0 q1 r0 r1
 go_wp2_with fail
 obtain ⟨t0,t1,t2⟩:=HT.out
 obtain ⟨e0,e1,e2,_⟩:=c3_of t0
 obtain ⟨f0,f1,f2,_⟩:=c3_of t1
 refine bodyPost_ret (v := .tuple #[.agg #[.int .i64 0,.int .i64 0,.slice none 0 0],.agg #[.int .i64 0,.int .i64 0,.slice none 0 0],.int .i64 er]) ?_ rfl ⟨none,0,none,0,rfl,⟨⟨rfl,by simp⟩,fun k hk=>absurd hk (by simp)⟩,⟨⟨rfl,by simp⟩,fun k hk=>absurd hk (by simp)⟩,Nat.zero_le _,Nat.zero_le _,t2⟩
 simp[results,Tryz.f56,go_sem,e0,e1,e2,f0,f1,f2]
theorem enterFA:∀args w,Sem.run Tryz.prog (callFunc 131 args) w = .ok (.enter 131 args) w:=by
 intro args w;kernel_rfl
theorem enterFT:∀args w,Sem.run Tryz.prog (callFunc 132 args) w = .ok (.enter 132 args) w:=by
 intro args w;kernel_rfl
theorem fadL_len (N:Nat):(fadL N).length=N*N:=madeTo_len _ _ _
theorem ftiL_len (N:Nat):(ftiL N).length=N*N:=madeTo_len _ _ _
theorem field_ok (N:Nat) (h1:1≤N) (h2:N≤16) (hf:fldB N=true) (w:World):Calls Tryz.prog 56 #[.int .i64 (N:Int)] w (TwoG w (N:Int) (fadL N) (ftiL N) 0):=by
 have HK:=Lib.hid (fun W=>ckfield_ok N h1 h2 W)
 rw[hf,show whenV (!true) 15=0 from rfl] at HK
 have hnn:N*N≤16*16:=Nat.mul_le_mul h2 h2
 have hal:(fadL N).length≤17592186044416:=by rw[fadL_len];omega
 have htl:(ftiL N).length≤17592186044416:=by rw[ftiL_len];omega
 have HA:∀(W:World) (a:Option Addr) (c:Nat),IC W a (fldZ N).length (fldZ N)→Calls Tryz.prog 94 #[.int .i64 (N:Int),.func (.func 131) #[.agg #[.int .i64 (N:Int),.int .i64 (fldP N:Int),.slice a (fldZ N).length c]] #[]] W (GridM W (N:Int) (N:Int) (fadL N)):=fun W a c _ =>
  made_g N (by omega) 131 #[.agg #[.int .i64 (N:Int),.int .i64 (fldP N:Int),.slice a (fldZ N).length c]] #[] (fun i j=>fAdd N i j) (fadL N) W rfl enterFA (fun i j hi hj W' _=>fadd_c N i j h2 hf (by omega) (by omega) a c W')
 have HB:∀(W:World) (a:Option Addr) (c:Nat),IC W a (fldZ N).length (fldZ N)→Calls Tryz.prog 94 #[.int .i64 (N:Int),.func (.func 132) #[.agg #[.int .i64 (N:Int),.int .i64 (fldP N:Int),.slice a (fldZ N).length c]] #[]] W (GridM W (N:Int) (N:Int) (ftiL N)):=fun W a c hz =>
  made_g N (by omega) 132 #[.agg #[.int .i64 (N:Int),.int .i64 (fldP N:Int),.slice a (fldZ N).length c]] #[] (fun i j=>fTimes N i j) (ftiL N) W rfl enterFT (fun i j hi hj W' hb'=>ftimes_c N i j h2 hf (by omega) (by omega) a c W' (hz.mono hb'))
 generalize fadL N=fs at HA hal ⊢
 generalize ftiL N=ts at HB htl ⊢
 generalize fldP N=p at HK HA HB
 generalize fldZ N=zs at HK HA HB
 have HA:=Lib.hid HA
 have HB:=Lib.hid HB
 have HAL:=Lib.hid hal
 have HTL:=Lib.hid htl
 clear hf hnn hal htl h1 h2
 go_enter Tryz.func56,Tryz.ntmps56
 go_upto_region 1 with fail
 have fsz:((w.alloc (.cells #[.int .i64 0,.int .i64 0,.slice none 0 0] 24)).alloc (.cells #[.int .i64 0,.int .i64 0,.slice none 0 0] 24)).heap.size=w.heap.size+2:=by simp only[World.size_alloc] <;> omega
 have fB:Below w.heap.size w ((w.alloc (.cells #[.int .i64 0,.int .i64 0,.slice none 0 0] 24)).alloc (.cells #[.int .i64 0,.int .i64 0,.slice none 0 0] 24)):=((Below.refl _ _).alloc (Nat.le_refl _) _).alloc (by simp only[World.size_alloc];omega) _
 have fq0:((w.alloc (.cells #[.int .i64 0,.int .i64 0,.slice none 0 0] 24)).alloc (.cells #[.int .i64 0,.int .i64 0,.slice none 0 0] 24)).heap[w.heap.size]?=some (.cells #[.int .i64 0,.int .i64 0,.slice none 0 0] 24 (0,0)):=by have h:=World.alloc_heap_new w (.cells #[.int .i64 0,.int .i64 0,.slice none 0 0] 24);exact (Below.heap_alloc _ _ _ (by simp only[World.size_alloc];omega)).trans (h)
 have fq1:((w.alloc (.cells #[.int .i64 0,.int .i64 0,.slice none 0 0] 24)).alloc (.cells #[.int .i64 0,.int .i64 0,.slice none 0 0] 24)).heap[w.heap.size+1]?=some (.cells #[.int .i64 0,.int .i64 0,.slice none 0 0] 24 (0,0)):=by have h:=World.alloc_heap_new (w.alloc (.cells #[.int .i64 0,.int .i64 0,.slice none 0 0] 24)) (.cells #[.int .i64 0,.int .i64 0,.slice none 0 0] 24);simp only[World.size_alloc] at h;exact h
 generalize ((w.alloc (.cells #[.int .i64 0,.int .i64 0,.slice none 0 0] 24)).alloc (.cells #[.int .i64 0,.int .i64 0,.slice none 0 0] 24))=W0 at fsz fB fq0 fq1 ⊢
 have Q0:=Lib.hid fq0
 have Q1:=Lib.hid fq1
 have FB:=Lib.hid fB
 have hs0:w.heap.size+2=W0.heap.size:=fsz.symm
 clear fq0 fq1 fB fsz
 go_upto_region 2 with (first|(go_at_call 130;refine (HK.out _).mono ?_;rintro _ w2 ⟨az,cz,rfl,hI2,hb2⟩)|fail)
 have q0:=keepq hb2 Q0.out
 have q1:=keepq hb2 Q1.out
 have hB2:=keep_trans FB.out hb2
 have hs2:=hb2.size
 have gsz:(w2.alloc (.cells #[.int .i64 (N:Int),.int .i64 (p:Int),.slice az zs.length cz] 136)).heap.size=w2.heap.size+1:=by simp only[World.size_alloc]
 have gB:Below w2.heap.size w2 (w2.alloc (.cells #[.int .i64 (N:Int),.int .i64 (p:Int),.slice az zs.length cz] 136)):=(Below.refl _ _).alloc (Nat.le_refl _) _
 have gq0:(w2.alloc (.cells #[.int .i64 (N:Int),.int .i64 (p:Int),.slice az zs.length cz] 136)).heap[w2.heap.size]?=some (.cells #[.int .i64 (N:Int),.int .i64 (p:Int),.slice az zs.length cz] 136 (0,0)):=by have h:=World.alloc_heap_new w2 (.cells #[.int .i64 (N:Int),.int .i64 (p:Int),.slice az zs.length cz] 136);exact h
 generalize (w2.alloc (.cells #[.int .i64 (N:Int),.int .i64 (p:Int),.slice az zs.length cz] 136))=W3 at gsz gB gq0 ⊢
 have hs3:=gB.size
 have R0:=Lib.hid (keepq gB q0)
 have R1:=Lib.hid (keepq gB q1)
 have HB3:=Lib.hid (keep_trans hB2 gB)
 have HI3:=Lib.hid (hI2.mono gB)
 obtain ⟨x0,x1,x2,xl⟩:=c3_of gq0
 clear gsz gq0 gB hb2 hB2 q0 q1 hI2
 go_upto_region 4 with fail
 refine wp_region_S (fun w'=>∃u,w'=over (W3) u) [10,9,8,7] [(0,0),(0,1),(0,2),(0,4),(0,5),(0,6),(1,3),(2,7),(2,8),(2,9),(2,10)] (by kernel_rfl) (by kernel_rfl) (by exact ⟨_,below_over (by repeat (first|assumption|exact Below.refl _ _|refine keep_drew ?_|refine keep_alloc ?_ _|refine keep_trans ?_ (by assumption)))⟩) ?_
 dsimp only[pickOps,nthOp]
 repeat (first|(refine wpS_skip rfl (fun K hK=>?_);go_big_quiet_op;refine hK _ ?_;clear hK K)|(refine wpS_quiet rfl rfl (fun K hK=>?_);go_big_quiet_op;refine hK _ ?_;clear hK K)|(refine wpS_loud ?_;go_wp2_with (first|(go_at_call 94;(with_reducible refine (HA.out _ _ _ (HI3.out.mono (by (repeat (first|assumption|exact Below.refl _ _|refine keep_drew ?_|refine keep_alloc ?_ _|refine keep_trans ?_ (by assumption)))))).mono ?_);rintro _ w5 ⟨a5,c5,rfl,hown5,hb5⟩)|(go_at_call 94;(with_reducible refine (HB.out _ _ _ (HI3.out.mono (by (repeat (first|assumption|exact Below.refl _ _|refine keep_drew ?_|refine keep_alloc ?_ _|refine keep_trans ?_ (by assumption)))))).mono ?_);rintro _ w7 ⟨a7,c7,rfl,hown7,hb7⟩;have HW7:Hid (Below W3.heap.size W3 w7):=(by unfold Hid;(repeat (first|assumption|exact Below.refl _ _|refine keep_drew ?_|refine keep_alloc ?_ _|refine keep_trans ?_ (by assumption))));obtain ⟨y0,y1,y2,yl⟩:=c3_of (keepq HW7.out R0.out);obtain ⟨yf0,yf1,yf2⟩:=f3_of (keepq HW7.out R0.out);obtain ⟨u0,u1,u2,ul⟩:=c3_of (keepq HW7.out R1.out);obtain ⟨uf0,uf1,uf2⟩:=f3_of (keepq HW7.out R1.out))|fail);refine ⟨?_,?_⟩;focus (exact ⟨_,below_over (by repeat (first|assumption|exact Below.refl _ _|refine keep_drew ?_|refine keep_alloc ?_ _|refine keep_trans ?_ (by assumption)))⟩)))
 refine wpS_late _ _ _ rfl ?_
 dsimp only[List.map]
 go_wp2_with (first|(go_at_call 94;(with_reducible refine (HA.out _ _ _ (HI3.out.mono (by (repeat (first|assumption|exact Below.refl _ _|refine keep_drew ?_|refine keep_alloc ?_ _|refine keep_trans ?_ (by assumption)))))).mono ?_);rintro _ w5 ⟨a5,c5,rfl,hown5,hb5⟩)|(go_at_call 94;(with_reducible refine (HB.out _ _ _ (HI3.out.mono (by (repeat (first|assumption|exact Below.refl _ _|refine keep_drew ?_|refine keep_alloc ?_ _|refine keep_trans ?_ (by assumption)))))).mono ?_);rintro _ w7 ⟨a7,c7,rfl,hown7,hb7⟩;have HW7:Hid (Below W3.heap.size W3 w7):=(by unfold Hid;(repeat (first|assumption|exact Below.refl _ _|refine keep_drew ?_|refine keep_alloc ?_ _|refine keep_trans ?_ (by assumption))));obtain ⟨y0,y1,y2,yl⟩:=c3_of (keepq HW7.out R0.out);obtain ⟨yf0,yf1,yf2⟩:=f3_of (keepq HW7.out R0.out);obtain ⟨u0,u1,u2,ul⟩:=c3_of (keepq HW7.out R1.out);obtain ⟨uf0,uf1,uf2⟩:=f3_of (keepq HW7.out R1.out))|fail)
 refine NoPanic.normal ?_
 have hs5:=hb5.size
 have hs7:=hb7.size
 have i5:=(IC.of_owns hown5 HAL.out).1.mono hb7
 have i7:=(IC.of_owns hown7 HTL.out).1
 have hcap5:=(IC.of_owns hown5 HAL.out).2
 have hcap7:=(IC.of_owns hown7 HTL.out).2
 have n5:∀k,k<W3.heap.size→∀b2 off,a5=some ⟨b2,off,none⟩→b2≠k:=fun k hk=>ne_of_own hown5 (by simpa using hk)
 have n7:∀k,k<W3.heap.size→∀b2 off,a7=some ⟨b2,off,none⟩→b2≠k:=fun k hk=>ne_of_own hown7 (by have:=(show W3.heap.size≤w5.heap.size from Nat.le_trans (by simp) hs5);omega)
 have j5:=(i5.st3 (x0 := .int .i64 (N:Int)) (x1 := .int .i64 (N:Int)) (x2 := .slice a5 fs.length c5) (n5 w.heap.size (by omega))).st3 (x0 := .int .i64 (N:Int)) (x1 := .int .i64 (N:Int)) (x2 := .slice a7 ts.length c7) (n5 (w.heap.size+1) (by omega))
 have j7:=(i7.st3 (x0 := .int .i64 (N:Int)) (x1 := .int .i64 (N:Int)) (x2 := .slice a5 fs.length c5) (n7 w.heap.size (by omega))).st3 (x0 := .int .i64 (N:Int)) (x1 := .int .i64 (N:Int)) (x2 := .slice a7 ts.length c7) (n7 (w.heap.size+1) (by omega))
 obtain ⟨t0,t1,t2⟩:=two_fin (r:=(N:Int)) (s1 := .slice a5 fs.length c5) (s2 := .slice a7 ts.length c7) (keepq HW7.out R0.out) (keepq HW7.out R1.out) (keep_trans HB3.out HW7.out) (Nat.le_refl _)
 have J5:=Lib.hid j5
 have J7:=Lib.hid j7
 have T0:=Lib.hid t0
 have T1:=Lib.hid t1
 have T2:=Lib.hid t2
 clear i5 i7 n5 n7 j5 j7 t0 t1 t2 hown5 hown7 hb5 hb7 hs5 hs7
 go_wp2_with fail
 obtain ⟨e0,e1,e2,_⟩:=c3_of T0.out
 obtain ⟨f0,f1,f2,_⟩:=c3_of T1.out
 refine bodyPost_ret (v := .tuple #[.agg #[.int .i64 (N:Int),.int .i64 (N:Int),.slice a5 fs.length c5],.agg #[.int .i64 (N:Int),.int .i64 (N:Int),.slice a7 ts.length c7],.int .i64 0]) ?_ rfl ⟨a5,c5,a7,c7,rfl,J5.out,J7.out,hcap5,hcap7,T2.out⟩
 simp[results,Tryz.f56,go_sem,e0,e1,e2,f0,f1,f2]
end
end Go.Proofs.YtmfpdakaeagdpaaGreat
