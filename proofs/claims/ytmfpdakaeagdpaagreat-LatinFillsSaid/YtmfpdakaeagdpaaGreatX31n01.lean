/- Texts O1 to J2 of this proof, in one file. -/
import Derived.Test.YtmfpdakaeagdpaaGreatW01
import Derived.Test.YtmfpdakaeagdpaaGreatW02
import Derived.Test.YtmfpdakaeagdpaaGreatW03
import Derived.Test.YtmfpdakaeagdpaaGreatW04
import Derived.Test.YtmfpdakaeagdpaaGreatW05
import Derived.Test.YtmfpdakaeagdpaaGreatW06
import Derived.Test.YtmfpdakaeagdpaaGreatW07
import Derived.Test.YtmfpdakaeagdpaaGreatW08
import Derived.Test.YtmfpdakaeagdpaaGreatW09
import Derived.Test.YtmfpdakaeagdpaaGreatW10
import Derived.Test.YtmfpdakaeagdpaaGreatW11
import Derived.Test.YtmfpdakaeagdpaaGreatW12
import Derived.Test.YtmfpdakaeagdpaaGreatW13
import Derived.Test.YtmfpdakaeagdpaaGreatW14
import Derived.Test.YtmfpdakaeagdpaaGreatW15
import Derived.Test.YtmfpdakaeagdpaaGreatW16
import Derived.Test.YtmfpdakaeagdpaaGreatW17
import Derived.Test.YtmfpdakaeagdpaaGreatW18
import Derived.Test.YtmfpdakaeagdpaaGreatW19
import Derived.Test.YtmfpdakaeagdpaaGreatW20
import Derived.Test.YtmfpdakaeagdpaaGreatW21
import Derived.Test.YtmfpdakaeagdpaaGreatW22
import Derived.Test.YtmfpdakaeagdpaaGreatW23
import Derived.Test.YtmfpdakaeagdpaaGreatW24
import Derived.Test.YtmfpdakaeagdpaaGreatW25
import Derived.Test.YtmfpdakaeagdpaaGreatW26
import Derived.Test.YtmfpdakaeagdpaaGreatW27
import Derived.Below
import Derived.BigFrame
import Derived.BigQuiet
import Derived.Deep.CutBlock
import Derived.Deep.CutRange
import Derived.Deep.LoopGhost
import Derived.Deep.Matrix
import Derived.Deep.Quiet
import Derived.Deep.RegionHeld3
import Derived.KernelRfl
import Derived.Laws.BitsAllLaws
import Derived.Lib.Hide
import Derived.Lib.SliceRun
import Derived.Lib.SmallJoins
import Derived.LoopIn
import Derived.LoopNIn
import Derived.Maps.AppendAt
import Derived.Maps.OwnIn
import Derived.OneCell
import Derived.OrdersHeld
import Derived.OwnWalkIn
import Derived.ProofKit
import Derived.RangeFuncBound
import Derived.RangeFuncCalls
import Derived.RangeFuncLeaves
import Derived.RangeFuncNested
import Derived.Shelf.Abstract
import Derived.SizedLaws
import Derived.Still
import Derived.TacticsInMore
import Derived.Test.YtmfpdakaeagdpaaGreatProg
import Derived.WalkKit
import Derived.WalkLawsBesides
import Derived.WalkSpells
namespace Go.Proofs.YtmfpdakaeagdpaaGreat
set_option maxRecDepth 100000
set_option maxHeartbeats 16000000
section
open Go Go.RowKit Go.ChangeShapes Go.WideShapes
theorem O1.cells3:Tryz.prog.cellsOf 3=1:=by kernel_rfl
theorem O1.cells25:Tryz.prog.cellsOf 22=1:=by kernel_rfl
theorem O1.bytes3:Tryz.prog.bytesOf 3=8:=by kernel_rfl
theorem O1.reach:reachBytes=140737488351232:=rfl
section
variable {H:Type} {enc:TypeId × Value→H} {w:World} {held:Bool}
theorem O1.ints {fuel:Nat} {c:Value} {y:DataW H × List MemPlace} (h:DataW.trod enc Tryz.prog w 0 (fun _=>true) held fuel 22 [c]=some y) (hz:∀n∈y.1.weights Tryz.prog 22,n≤reachBytes) :
  ∃a n cap g,c = .slice a n cap∧n≤cap∧IC w a n g:=by
 rcases open_ints Tryz.underlying22 Tryz.underlying3 O1.cells3 h with ⟨hcs,_⟩|⟨x,l,cap,zs,hcs,_,hl,hm,hzl,hy,hcell,hwz⟩
 ·simp only[List.cons.injEq,and_true] at hcs
  exact ⟨none,0,0,[],hcs,Nat.le_refl _,⟨rfl,by omega⟩,fun k hk=>absurd hk (Nat.not_lt_zero _)⟩
 ·simp only[List.cons.injEq,and_true] at hcs
  simp only[if_true] at hzl
  rw[hy] at hz
  have h1:=hz _ (by simp only[DataW.weights,Tryz.underlying22];exact List.mem_cons_self)
  simp only[lits,List.length_map,List.length_take,List.length_drop,O1.bytes3,O1.reach] at h1
  refine ⟨some x,l,cap,zs.take l,hcs,hl,⟨by rw[List.length_take];omega,by omega⟩,fun k hk=>?_⟩
  have h2:=hcell k (by omega)
  obtain ⟨b,off,spot⟩:=x
  have hs:spot=none:=by simpa [Addr.add] using World.cell?_spot (hcell 0 (by omega))
  subst hs
  have h3:w.cell? ⟨b,off+k,none⟩=some (.int .i64 (zs.getD k 0)):=by rw[add_plain] at h2;exact h2
  refine ⟨b,off,rfl,World.block_lt_of_cell? _ _ h3,?_⟩
  rw[h3,List.getElem?_take,if_pos hk]
  simp[List.getD]
end
end
section
open Go Go.RowKit
attribute [local go_sem] over_cell
attribute [local go_sem] Oper.semAt_some
def lexB:List Int→List Int→Bool
 | [],[]=>false
 | [],_ :: _=>true
 | _ :: _,[]=>false
 | x :: a,y :: b=>if x=y then lexB a b else decide (x<y)
theorem lexB_drop {a b:List Int} {k:Nat} (ha:k<a.length) (hb:k<b.length):lexB (a.drop k) (b.drop k)=if a[k]?.getD 0=b[k]?.getD 0 then lexB (a.drop (k+1)) (b.drop (k+1)) else decide (a[k]?.getD 0<b[k]?.getD 0):=by
 rw[List.drop_eq_getElem_cons ha,List.drop_eq_getElem_cons hb,List.getElem?_eq_getElem ha,List.getElem?_eq_getElem hb]
 rfl
theorem lexB_end {a b:List Int} {k:Nat} (hk:k=a.length∨k=b.length) (ha:k≤a.length) (hb:k≤b.length):lexB (a.drop k) (b.drop k)=decide (a.length<b.length):=by
 rcases hk with e|e
 ·rw[List.drop_eq_nil_of_le (by omega)]
  rcases Nat.lt_or_ge k b.length with h|h
  ·rw[List.drop_eq_getElem_cons h]
   rw[decide_eq_true (by omega)]
   rfl
  ·rw[List.drop_eq_nil_of_le h,decide_eq_false (by omega)]
   rfl
 ·rw[List.drop_eq_nil_of_le (by omega:b.length≤k)]
  rw[decide_eq_false (by omega)]
  cases a.drop k <;> rfl
theorem before_c (a a':Option Addr) (n n' c c':Nat) (xs ys:List Int) (w:World) (h:IC w a n xs) (h':IC w a' n' ys) :
  Calls Tryz.prog 42 #[.slice a n c,.slice a' n' c'] w fun e w'=>e = .returned (.bool (lexB xs ys))∧Below w.heap.size w w':=by
 have hm:=h.small
 have hm':=h'.small
 have H:=Lib.hid h
 have H':=Lib.hid h'
 have hl1:=Lib.hid h.len
 have hl2:=Lib.hid h'.len
 clear h h'
 go_enter Tryz.func42,Tryz.ntmps42
 go_wp2
 go_loopw [5] (fun i wr=>∃k:Nat,k≤n∧k≤n'∧i = .int .i64 k∧Hid (lexB xs ys=lexB (xs.drop k) (ys.drop k))∧Below w.heap.size w wr) (fun i _=>n - (intOf i).toNat)
 case atStart=>exact ⟨0,by omega,by omega,rfl,rfl,Below.refl _ _⟩
 case round =>
  obtain ⟨k,hk,hk',rfl,hno,hbr⟩:=hrel
  by_cases h1:k<n
  ·have h1i:(k:Int)<(n:Int):=by omega
   by_cases h2:k<n'
   ·obtain ⟨b,off,rfl,hb,hc⟩:=(H.out.mono hbr).2 k h1
    obtain ⟨b',off',rfl,hb',hc'⟩:=(H'.out.mono hbr).2 k h2
    have h2i:(k:Int)<(n':Int):=by omega
    have hLX:=Lib.hid (hno.out.trans (lexB_drop (by rw[hl1.out];exact h1) (by rw[hl2.out];exact h2)))
    generalize xs[k]?.getD 0=x at hc hLX
    generalize ys[k]?.getD 0=y at hc' hLX
    by_cases e:x=y
    ·rw[if_pos e] at hLX
     have m:(x != y)=false:=by simpa using e
     clear e
     go_wp2_with fail
     refine wp_region_S (fun w'=>∃u,w'=over (wr) u) [] [(0,0),(0,1),(0,2),(0,3),(0,4),(0,5),(0,6),(0,7),(0,8)] (by kernel_rfl) (by kernel_rfl) (by exact ⟨_,below_over (by repeat (first|assumption|exact Below.refl _ _|refine keep_drew ?_|refine keep_alloc ?_ _|refine keep_trans ?_ (by assumption)))⟩) ?_
     dsimp only[pickOps,nthOp]
     repeat (first|(refine wpS_skip rfl (fun K hK=>?_);go_big_quiet_op;refine hK _ ?_;clear hK K)|(refine wpS_quiet rfl rfl (fun K hK=>?_);go_big_quiet_op;refine hK _ ?_;clear hK K))
     refine wpS_end ?_
     go_wp2
     go_roundw
     case rel=>exact ⟨k+1,by omega,by omega,by go_num,hLX.out,hbr.drew⟩
     case measure=>simp[intOf];omega
    ·rw[if_neg e] at hLX
     have m:(x != y)=true:=by simpa using e
     clear e
     go_wp2_with fail
     refine wp_region_S (fun w'=>∃u,w'=over (wr) u) [] [(0,0),(0,1),(0,2),(0,3),(0,4),(0,5),(0,6),(0,7),(0,8)] (by kernel_rfl) (by kernel_rfl) (by exact ⟨_,below_over (by repeat (first|assumption|exact Below.refl _ _|refine keep_drew ?_|refine keep_alloc ?_ _|refine keep_trans ?_ (by assumption)))⟩) ?_
     dsimp only[pickOps,nthOp]
     repeat (first|(refine wpS_skip rfl (fun K hK=>?_);go_big_quiet_op;refine hK _ ?_;clear hK K)|(refine wpS_quiet rfl rfl (fun K hK=>?_);go_big_quiet_op;refine hK _ ?_;clear hK K))
     refine wpS_end ?_
     go_wp2_with fail
     refine wp_region_S (fun w'=>∃u,w'=over (wr) u) [9] [(0,0),(0,1),(0,2),(0,3),(0,4),(0,5),(0,6),(0,7),(0,8),(2,9)] (by kernel_rfl) (by kernel_rfl) (by exact ⟨_,below_over (by repeat (first|assumption|exact Below.refl _ _|refine keep_drew ?_|refine keep_alloc ?_ _|refine keep_trans ?_ (by assumption)))⟩) ?_
     dsimp only[pickOps,nthOp]
     repeat (first|(refine wpS_skip rfl (fun K hK=>?_);go_big_quiet_op;refine hK _ ?_;clear hK K)|(refine wpS_quiet rfl rfl (fun K hK=>?_);go_big_quiet_op;refine hK _ ?_;clear hK K))
     refine wpS_late _ _ _ rfl ?_
     dsimp only[List.map]
     go_wp2
     refine NoPanic.normal ?_
     go_wp2
     go_ret
     exact ⟨ret_bool hLX.out.symm,hbr.drew.drew⟩
   ·have h2i:¬(k:Int)<(n':Int):=by omega
    have hLX:=Lib.hid (hno.out.trans (lexB_end (.inr (by rw[hl2.out];omega)) (by rw[hl1.out];omega) (by rw[hl2.out];omega)))
    rw[hl1.out,hl2.out] at hLX
    have h3:¬(n:Int)<(n':Int):=by omega
    rw[decide_eq_false (by omega)] at hLX
    go_wp2_with fail
    go_ret
    exact ⟨ret_bool hLX.out.symm,hbr⟩
  ·have h1i:¬(k:Int)<(n:Int):=by omega
   have hLX:=Lib.hid (hno.out.trans (lexB_end (.inl (by rw[hl1.out];omega)) (by rw[hl1.out];omega) (by rw[hl2.out];omega)))
   rw[hl1.out,hl2.out] at hLX
   by_cases h3:n<n'
   ·have h3i:(n:Int)<(n':Int):=by omega
    rw[decide_eq_true h3] at hLX
    go_wp2_with fail
    go_ret
    exact ⟨ret_bool hLX.out.symm,hbr⟩
   ·have h3i:¬(n:Int)<(n':Int):=by omega
    rw[decide_eq_false h3] at hLX
    go_wp2_with fail
    go_ret
    exact ⟨ret_bool hLX.out.symm,hbr⟩
end
section
open Go Go.RowKit
attribute [local go_sem] over_cell
attribute [local go_sem] Oper.semAt_some
theorem lineB_iff {C k d:Nat} (hk:k≤1000000) (hd:d≤1000000):lineB C k d=((wrap64 ((k:Int) / (C:Int))==wrap64 ((d:Int) / (C:Int)))||((k:Int) % (C:Int)==(d:Int) % (C:Int))):=by
 rw[divw hk,divw hd,modw,modw,Bool.eq_iff_iff]
 unfold lineB
 simp only[Bool.or_eq_true,beq_iff_eq,Int.natCast_inj]
def TwN (C:Nat) (cs:List Int) (k d:Nat):Prop:=(∀i,i<k→∀j,j<i→(lineB C i j&&cs[i]?.getD 0==cs[j]?.getD 0&&decide (0≤cs[i]?.getD 0))=false)∧∀j,j<d→(lineB C k j&&cs[k]?.getD 0==cs[j]?.getD 0&&decide (0≤cs[k]?.getD 0))=false
theorem TwN.next {C:Nat} {cs:List Int} {k d:Nat} (h:TwN C cs k d) (h1:(lineB C k d&&cs[k]?.getD 0==cs[d]?.getD 0&&decide (0≤cs[k]?.getD 0))=false):TwN C cs k (d+1) :=
 ⟨h.1,fun j hj=>by
  rcases Nat.lt_or_ge j d with e|e
  ·exact h.2 j e
  ·rw[show j=d by omega];exact h1⟩
theorem TwN.row {C:Nat} {cs:List Int} {k:Nat} (h:TwN C cs k k):TwN C cs (k+1) 0 :=
 ⟨fun i hi j hj=>by
  rcases Nat.lt_or_ge i k with e|e
  ·exact h.1 i e j hj
  ·rw[show i=k by omega] at hj ⊢;exact h.2 j hj,fun j hj=>absurd hj (by omega)⟩
theorem TwN.none {C:Nat} {cs:List Int} (h:TwN C cs cs.length 0):twiceB C cs=false:=by
 unfold twiceB
 rw[List.any_eq_false]
 intro i hi
 rw[List.mem_range] at hi
 rw[Bool.not_eq_true,List.any_eq_false]
 intro j hj
 rw[List.mem_range] at hj
 rw[h.1 i hi j hj]
 decide
theorem twice_hit {C:Nat} {cs:List Int} {k d:Nat} (hk:k<cs.length) (hd:d<k) (h:(lineB C k d&&cs[k]?.getD 0==cs[d]?.getD 0&&decide (0≤cs[k]?.getD 0))=true):twiceB C cs=true:=by
 unfold twiceB
 rw[List.any_eq_true]
 exact ⟨k,List.mem_range.2 hk,List.any_eq_true.2 ⟨d,List.mem_range.2 hd,h⟩⟩
theorem rtwice_c (r:Int) (C:Nat) (a:Option Addr) (n c:Nat) (cs:List Int) (w:World) (h:IC w a n cs) (hC:1≤C) (hn:n≤65536) :
  Calls Tryz.prog 157 #[.agg #[.int .i64 r,.int .i64 (C:Int),.slice a n c]] w fun e w'=>e = .returned (.bool (twiceB C cs))∧Below w.heap.size w w':=by
 have hm:=h.small
 go_enter Tryz.func157,Tryz.ntmps157
 go_wp2_with fail
 have fB:Below w.heap.size w (w.alloc (.cells #[.int .i64 r,.int .i64 (C:Int),.slice a n c] 24)):=(Below.refl _ _).alloc (Nat.le_refl _) _
 have FQ:Hid ((w.alloc (.cells #[.int .i64 r,.int .i64 (C:Int),.slice a n c] 24)).heap[w.heap.size]?=some (.cells #[.int .i64 r,.int .i64 (C:Int),.slice a n c] 24 (0,0))):=World.alloc_heap_new _ _
 generalize (w.alloc (.cells #[.int .i64 r,.int .i64 (C:Int),.slice a n c] 24))=W0 at fB FQ ⊢
 obtain ⟨x0,x1,x2,xl⟩:=c3_of FQ.out
 have h0:=h.mono fB
 have hCI:(1:Int)≤(C:Int):=by omega
 have hCI2:((C:Int)==0)=false:=by rw[beq_eq_false_iff_ne];omega
 have HL:=Lib.hid h.len
 clear h
 go_loopw [3,4,5] (fun s3 _ _ wr=>∃k:Nat,k≤n∧s3 = .int .i64 k∧Hid (TwN C cs k 0)∧Below W0.heap.size W0 wr) (fun s3 _ _ _=>n - (intOf s3).toNat)
 case atStart=>exact ⟨0,by omega,rfl,⟨fun i hi=>absurd hi (by omega),fun j hj=>absurd hj (by omega)⟩,Below.refl _ _⟩
 case round =>
  obtain ⟨k,hk,rfl,hn1,hbr⟩:=hrel
  clear x0 x1 x2 xl
  obtain ⟨x0,x1,x2,xl⟩:=c3_of (keepq hbr FQ.out)
  by_cases hlt:k<n
  ·have hdI:k≤1000000:=by omega
   obtain ⟨b,off,rfl,hb,hc⟩:=h0.2 k hlt
   have hki:(k:Int)<(n:Int):=by omega
   go_wp2_with fail
   go_loopw [4,5] (fun s4 _ wr=>∃d:Nat,d≤k∧s4 = .int .i64 d∧Hid (TwN C cs k d)∧Below W0.heap.size W0 wr) (fun s4 _ _=>k - (intOf s4).toNat)
   case atStart=>exact ⟨0,by omega,rfl,hn1,hbr⟩
   case round =>
    obtain ⟨d,hd,rfl,hn2,hbr⟩:=hrel
    clear x0 x1 x2 xl
    obtain ⟨x0,x1,x2,xl⟩:=c3_of (keepq hbr FQ.out)
    by_cases hlt2:d<k
    ·have hdI2:d≤1000000:=by omega
     have HLB:=Lib.hid (lineB_iff (C:=C) hdI hdI2)
     obtain ⟨b2,off2,e2,hb2,hc2⟩:=(h0.mono hbr).2 d (by omega)
     cases e2
     replace hc:=((bcell hbr).1 _ _ hb).trans hc
     have hdi:(d:Int)<(n:Int):=by omega
     have HH:=Lib.hid (fun e=>twice_hit (C:=C) (cs:=cs) (k:=k) (d:=d) (by rw[HL.out];exact hlt) hlt2 e)
     have HN:=Lib.hid (fun e=>hn2.out.next e)
     obtain ⟨t1,ht1⟩:∃t,t=(wrap64 ((k:Int) / (C:Int))==wrap64 ((d:Int) / (C:Int))):=⟨_,rfl⟩
     obtain ⟨t2,ht2⟩:∃t,t=((k:Int) % (C:Int)==(d:Int) % (C:Int)):=⟨_,rfl⟩
     rw[← ht1,← ht2] at HLB
     rw[HLB.out] at HH HN
     obtain ⟨t3,ht3⟩:∃t,t=(cs[k]?.getD 0==cs[d]?.getD 0):=⟨_,rfl⟩
     obtain ⟨t4,ht4⟩:∃t,t=decide (0≤cs[k]?.getD 0):=⟨_,rfl⟩
     rw[← ht3,← ht4] at HH HN
     obtain ⟨x,hx⟩:∃x,x=cs[k]?.getD 0:=⟨_,rfl⟩
     obtain ⟨y,hy⟩:∃y,y=cs[d]?.getD 0:=⟨_,rfl⟩
     rw[← hx,← hy] at ht3
     rw[← hx] at ht4 hc
     rw[← hy] at hc2
     clear hx hy HLB hn2
     replace ht1:=ht1.symm
     replace ht2:=ht2.symm
     replace ht3:=ht3.symm
     replace ht4:decide (x≥0)=t4:=ht4.symm
     go_wp2_with fail
     cases t1 with
     | true =>
      refine wp_region_S (fun w'=>∃u,w'=over (wr) u) [20] [(0,0),(0,1),(0,2),(0,3),(0,4),(0,5),(0,6),(0,7),(0,8),(0,9),(0,10),(0,11),(0,12),(0,13),(0,14),(0,15),(0,16),(0,17),(0,18),(0,19),(2,20)] (by kernel_rfl) (by kernel_rfl) (by exact ⟨_,below_over (by repeat (first|assumption|exact Below.refl _ _|refine keep_drew ?_|refine keep_alloc ?_ _|refine keep_trans ?_ (by assumption)))⟩) ?_
      dsimp only[pickOps,nthOp]
      repeat (first|(refine wpS_skip rfl (fun K hK=>?_);go_big_quiet_op;refine hK _ ?_;clear hK K)|(refine wpS_quiet rfl rfl (fun K hK=>?_);go_big_quiet_op;refine hK _ ?_;clear hK K))
      refine wpS_late _ _ _ rfl ?_
      dsimp only[List.map]
      go_wp2_with (fail)
      refine NoPanic.normal ?_
      cases t3 with
      | false =>
       go_wp2_with fail
       refine wp_region_S (fun w'=>∃u,w'=over (wr) u) [] [(0,0),(0,1),(0,2),(0,3),(0,4),(0,5),(0,6),(0,7),(0,8),(0,9),(0,10),(0,11),(0,12),(0,13),(0,14),(0,15),(0,16),(0,17),(0,18),(0,19),(0,20),(0,21)] (by kernel_rfl) (by kernel_rfl) (by exact ⟨_,below_over (by repeat (first|assumption|exact Below.refl _ _|refine keep_drew ?_|refine keep_alloc ?_ _|refine keep_trans ?_ (by assumption)))⟩) ?_
       dsimp only[pickOps,nthOp]
       repeat (first|(refine wpS_skip rfl (fun K hK=>?_);go_big_quiet_op;refine hK _ ?_;clear hK K)|(refine wpS_quiet rfl rfl (fun K hK=>?_);go_big_quiet_op;refine hK _ ?_;clear hK K))
       refine wpS_end ?_
       go_wp2_with fail
       go_roundw
       case rel=>exact ⟨d+1,by omega,by go_num,HN.out rfl,hbr.drew.drew⟩
       case measure=>simp[intOf];omega
      | true =>
       cases t4 with
       | false =>
        go_wp2_with fail
        refine wp_region_S (fun w'=>∃u,w'=over (wr) u) [] [(0,0),(0,1),(0,2),(0,3),(0,4),(0,5),(0,6),(0,7),(0,8),(0,9),(0,10),(0,11),(0,12),(0,13),(0,14),(0,15),(0,16),(0,17),(0,18),(0,19),(0,20),(0,21)] (by kernel_rfl) (by kernel_rfl) (by exact ⟨_,below_over (by repeat (first|assumption|exact Below.refl _ _|refine keep_drew ?_|refine keep_alloc ?_ _|refine keep_trans ?_ (by assumption)))⟩) ?_
        dsimp only[pickOps,nthOp]
        repeat (first|(refine wpS_skip rfl (fun K hK=>?_);go_big_quiet_op;refine hK _ ?_;clear hK K)|(refine wpS_quiet rfl rfl (fun K hK=>?_);go_big_quiet_op;refine hK _ ?_;clear hK K))
        refine wpS_end ?_
        go_wp2_with fail
        go_roundw
        case rel=>exact ⟨d+1,by omega,by go_num,HN.out rfl,hbr.drew.drew⟩
        case measure=>simp[intOf];omega
       | true =>
        go_wp2_with fail
        refine wp_region_S (fun w'=>∃u,w'=over (wr) u) [] [(0,0),(0,1),(0,2),(0,3),(0,4),(0,5),(0,6),(0,7),(0,8),(0,9),(0,10),(0,11),(0,12),(0,13),(0,14),(0,15),(0,16),(0,17),(0,18),(0,19),(0,20),(0,21)] (by kernel_rfl) (by kernel_rfl) (by exact ⟨_,below_over (by repeat (first|assumption|exact Below.refl _ _|refine keep_drew ?_|refine keep_alloc ?_ _|refine keep_trans ?_ (by assumption)))⟩) ?_
        dsimp only[pickOps,nthOp]
        repeat (first|(refine wpS_skip rfl (fun K hK=>?_);go_big_quiet_op;refine hK _ ?_;clear hK K)|(refine wpS_quiet rfl rfl (fun K hK=>?_);go_big_quiet_op;refine hK _ ?_;clear hK K))
        refine wpS_end ?_
        go_wp2_with fail
        go_ret
        exact ⟨ret_bool (HH.out rfl).symm,(fB.trans (hbr.mono fB.size)).drew.drew⟩
     | false =>
      cases t2 with
      | true =>
       refine wp_region_S (fun w'=>∃u,w'=over (wr) u) [20] [(0,0),(0,1),(0,2),(0,3),(0,4),(0,5),(0,6),(0,7),(0,8),(0,9),(0,10),(0,11),(0,12),(0,13),(0,14),(0,15),(0,16),(0,17),(0,18),(0,19),(2,20)] (by kernel_rfl) (by kernel_rfl) (by exact ⟨_,below_over (by repeat (first|assumption|exact Below.refl _ _|refine keep_drew ?_|refine keep_alloc ?_ _|refine keep_trans ?_ (by assumption)))⟩) ?_
       dsimp only[pickOps,nthOp]
       repeat (first|(refine wpS_skip rfl (fun K hK=>?_);go_big_quiet_op;refine hK _ ?_;clear hK K)|(refine wpS_quiet rfl rfl (fun K hK=>?_);go_big_quiet_op;refine hK _ ?_;clear hK K))
       refine wpS_late _ _ _ rfl ?_
       dsimp only[List.map]
       go_wp2_with (fail)
       refine NoPanic.normal ?_
       cases t3 with
       | false =>
        go_wp2_with fail
        refine wp_region_S (fun w'=>∃u,w'=over (wr) u) [] [(0,0),(0,1),(0,2),(0,3),(0,4),(0,5),(0,6),(0,7),(0,8),(0,9),(0,10),(0,11),(0,12),(0,13),(0,14),(0,15),(0,16),(0,17),(0,18),(0,19),(0,20),(0,21)] (by kernel_rfl) (by kernel_rfl) (by exact ⟨_,below_over (by repeat (first|assumption|exact Below.refl _ _|refine keep_drew ?_|refine keep_alloc ?_ _|refine keep_trans ?_ (by assumption)))⟩) ?_
        dsimp only[pickOps,nthOp]
        repeat (first|(refine wpS_skip rfl (fun K hK=>?_);go_big_quiet_op;refine hK _ ?_;clear hK K)|(refine wpS_quiet rfl rfl (fun K hK=>?_);go_big_quiet_op;refine hK _ ?_;clear hK K))
        refine wpS_end ?_
        go_wp2_with fail
        go_roundw
        case rel=>exact ⟨d+1,by omega,by go_num,HN.out rfl,hbr.drew.drew⟩
        case measure=>simp[intOf];omega
       | true =>
        cases t4 with
        | false =>
         go_wp2_with fail
         refine wp_region_S (fun w'=>∃u,w'=over (wr) u) [] [(0,0),(0,1),(0,2),(0,3),(0,4),(0,5),(0,6),(0,7),(0,8),(0,9),(0,10),(0,11),(0,12),(0,13),(0,14),(0,15),(0,16),(0,17),(0,18),(0,19),(0,20),(0,21)] (by kernel_rfl) (by kernel_rfl) (by exact ⟨_,below_over (by repeat (first|assumption|exact Below.refl _ _|refine keep_drew ?_|refine keep_alloc ?_ _|refine keep_trans ?_ (by assumption)))⟩) ?_
         dsimp only[pickOps,nthOp]
         repeat (first|(refine wpS_skip rfl (fun K hK=>?_);go_big_quiet_op;refine hK _ ?_;clear hK K)|(refine wpS_quiet rfl rfl (fun K hK=>?_);go_big_quiet_op;refine hK _ ?_;clear hK K))
         refine wpS_end ?_
         go_wp2_with fail
         go_roundw
         case rel=>exact ⟨d+1,by omega,by go_num,HN.out rfl,hbr.drew.drew⟩
         case measure=>simp[intOf];omega
        | true =>
         go_wp2_with fail
         refine wp_region_S (fun w'=>∃u,w'=over (wr) u) [] [(0,0),(0,1),(0,2),(0,3),(0,4),(0,5),(0,6),(0,7),(0,8),(0,9),(0,10),(0,11),(0,12),(0,13),(0,14),(0,15),(0,16),(0,17),(0,18),(0,19),(0,20),(0,21)] (by kernel_rfl) (by kernel_rfl) (by exact ⟨_,below_over (by repeat (first|assumption|exact Below.refl _ _|refine keep_drew ?_|refine keep_alloc ?_ _|refine keep_trans ?_ (by assumption)))⟩) ?_
         dsimp only[pickOps,nthOp]
         repeat (first|(refine wpS_skip rfl (fun K hK=>?_);go_big_quiet_op;refine hK _ ?_;clear hK K)|(refine wpS_quiet rfl rfl (fun K hK=>?_);go_big_quiet_op;refine hK _ ?_;clear hK K))
         refine wpS_end ?_
         go_wp2_with fail
         go_ret
         exact ⟨ret_bool (HH.out rfl).symm,(fB.trans (hbr.mono fB.size)).drew.drew⟩
      | false =>
       refine wp_region_S (fun w'=>∃u,w'=over (wr) u) [20] [(0,0),(0,1),(0,2),(0,3),(0,4),(0,5),(0,6),(0,7),(0,8),(0,9),(0,10),(0,11),(0,12),(0,13),(0,14),(0,15),(0,16),(0,17),(0,18),(0,19),(2,20)] (by kernel_rfl) (by kernel_rfl) (by exact ⟨_,below_over (by repeat (first|assumption|exact Below.refl _ _|refine keep_drew ?_|refine keep_alloc ?_ _|refine keep_trans ?_ (by assumption)))⟩) ?_
       dsimp only[pickOps,nthOp]
       repeat (first|(refine wpS_skip rfl (fun K hK=>?_);go_big_quiet_op;refine hK _ ?_;clear hK K)|(refine wpS_quiet rfl rfl (fun K hK=>?_);go_big_quiet_op;refine hK _ ?_;clear hK K))
       refine wpS_late _ _ _ rfl ?_
       dsimp only[List.map]
       go_wp2_with (fail)
       refine NoPanic.normal ?_
       go_wp2_with fail
       refine wp_region_S (fun w'=>∃u,w'=over (wr) u) [] [(0,0),(0,1),(0,2),(0,3),(0,4),(0,5),(0,6),(0,7),(0,8),(0,9),(0,10),(0,11),(0,12),(0,13),(0,14),(0,15),(0,16),(0,17),(0,18),(0,19),(0,20),(0,21)] (by kernel_rfl) (by kernel_rfl) (by exact ⟨_,below_over (by repeat (first|assumption|exact Below.refl _ _|refine keep_drew ?_|refine keep_alloc ?_ _|refine keep_trans ?_ (by assumption)))⟩) ?_
       dsimp only[pickOps,nthOp]
       repeat (first|(refine wpS_skip rfl (fun K hK=>?_);go_big_quiet_op;refine hK _ ?_;clear hK K)|(refine wpS_quiet rfl rfl (fun K hK=>?_);go_big_quiet_op;refine hK _ ?_;clear hK K))
       refine wpS_end ?_
       go_wp2_with fail
       go_roundw
       case rel=>exact ⟨d+1,by omega,by go_num,HN.out rfl,hbr.drew.drew⟩
       case measure=>simp[intOf];omega
    ·have e:d=k:=by omega
     subst e
     go_wp2_with fail
     go_roundw
     case rel=>exact ⟨d+1,by omega,by go_num,hn2.out.row,hbr⟩
     case measure=>simp[intOf];omega
  ·have e:k=n:=by omega
   subst e
   go_wp2_with fail
   go_ret
   exact ⟨ret_bool (by rw[(show Hid (TwN C cs cs.length 0) from by rw[HL.out];exact hn1).out.none]),fB.trans (hbr.mono fB.size)⟩
end
section
open Go Go.RowKit
attribute [local go_sem] over_cell
attribute [local go_sem] Oper.semAt_some
theorem any_upto {p:Int→Bool} {cs:List Int} (h:∀j,j<cs.length→p (cs[j]?.getD 0)=false):cs.any p=false:=by
 rw[List.any_eq_false]
 intro x hx
 obtain ⟨k,hk,e⟩:=List.getElem_of_mem hx
 have:=h k hk
 rw[List.getElem?_eq_getElem hk,Option.getD_some,e] at this
 rw[this];decide
theorem any_hit {p:Int→Bool} {cs:List Int} {j:Nat} (hj:j<cs.length) (h:p (cs[j]?.getD 0)=true):cs.any p=true:=by
 rw[List.getElem?_eq_getElem hj,Option.getD_some] at h
 exact List.any_eq_true.2 ⟨_,List.getElem_mem hj,h⟩
theorem rlsym_c (r:Int) (C:Nat) (a:Option Addr) (n c:Nat) (cs:List Int) (low:Int) (w:World) (h:IC w a n cs) (hC:1≤C) (hn:n≤65536) :
  Calls Tryz.prog 100 #[.agg #[.int .i64 r,.int .i64 (C:Int),.slice a n c],.int .i64 low] w fun e w'=>e = .returned (.int .i64 (symE low C cs))∧Below w.heap.size w w':=by
 have hm:=h.small
 go_enter Tryz.func100,Tryz.ntmps100
 go_wp2_with fail
 have fB:Below w.heap.size w (w.alloc (.cells #[.int .i64 r,.int .i64 (C:Int),.slice a n c] 24)):=(Below.refl _ _).alloc (Nat.le_refl _) _
 have FQ:Hid ((w.alloc (.cells #[.int .i64 r,.int .i64 (C:Int),.slice a n c] 24)).heap[w.heap.size]?=some (.cells #[.int .i64 r,.int .i64 (C:Int),.slice a n c] 24 (0,0))):=World.alloc_heap_new _ _
 generalize (w.alloc (.cells #[.int .i64 r,.int .i64 (C:Int),.slice a n c] 24))=W0 at fB FQ ⊢
 obtain ⟨x0,x1,x2,xl⟩:=c3_of FQ.out
 have h0:=h.mono fB
 have HL:=Lib.hid h.len
 have HT:=Lib.hid (fun W (hb:Below W0.heap.size W0 W)=>rtwice_c r C a n c cs W (h0.mono hb) hC hn)
 clear h
 go_loopw [5] (fun s5 wr=>∃k:Nat,k≤n∧s5 = .int .i64 k∧Hid (∀j,j<k→(decide (cs[j]?.getD 0<low)||decide ((C:Int)≤cs[j]?.getD 0))=false)∧Below W0.heap.size W0 wr) (fun s5 _=>n - (intOf s5).toNat)
 case atStart=>exact ⟨0,by omega,rfl,fun j hj=>absurd hj (by omega),Below.refl _ _⟩
 case round =>
  obtain ⟨k,hk,rfl,hn1,hbr⟩:=hrel
  clear x0 x1 x2 xl
  obtain ⟨x0,x1,x2,xl⟩:=c3_of (keepq hbr FQ.out)
  by_cases hlt:k<n
  ·obtain ⟨b,off,rfl,hb,hc⟩:=(h0.mono hbr).2 k hlt
   have hki:(k:Int)<(n:Int):=by omega
   have HN:=Lib.hid (fun e=>upB_snoc (f:=fun j=>decide (cs[j]?.getD 0<low)||decide ((C:Int)≤cs[j]?.getD 0)) hn1.out e)
   have HE:=Lib.hid (fun e=>any_hit (p:=fun x=>decide (x<low)||decide ((C:Int)≤x)) (cs:=cs) (j:=k) (by rw[HL.out];exact hlt) e)
   obtain ⟨x,hx⟩:∃x,x=cs[k]?.getD 0:=⟨_,rfl⟩
   rw[← hx] at hc HN HE
   clear hx
   obtain ⟨t1,ht1⟩:∃t,t=decide (x<low):=⟨_,rfl⟩
   obtain ⟨t2,ht2⟩:∃t,t=decide ((C:Int)≤x):=⟨_,rfl⟩
   rw[← ht1,← ht2] at HN HE
   replace ht1:=ht1.symm
   replace ht2:decide (x≥(C:Int))=t2:=ht2.symm
   go_wp2_with fail
   cases t1 with
   | true =>
    refine wp_region_S (fun w'=>∃u,w'=over (wr) u) [] [(0,0),(0,1),(0,2),(0,3),(0,4),(0,5),(0,6),(0,7),(0,8),(0,9),(0,10),(0,11),(0,12),(0,13),(0,14),(0,15),(0,16)] (by kernel_rfl) (by kernel_rfl) (by exact ⟨_,below_over (by repeat (first|assumption|exact Below.refl _ _|refine keep_drew ?_|refine keep_alloc ?_ _|refine keep_trans ?_ (by assumption)))⟩) ?_
    dsimp only[pickOps,nthOp]
    repeat (first|(refine wpS_skip rfl (fun K hK=>?_);go_big_quiet_op;refine hK _ ?_;clear hK K)|(refine wpS_quiet rfl rfl (fun K hK=>?_);go_big_quiet_op;refine hK _ ?_;clear hK K))
    refine wpS_end ?_
    go_wp2_with fail
    go_ret
    exact ⟨ret_int (by unfold symE;rw[if_pos (HE.out rfl)]),(fB.trans (hbr.mono fB.size)).drew⟩
   | false =>
    cases t2 with
    | true =>
     refine wp_region_S (fun w'=>∃u,w'=over (wr) u) [] [(0,0),(0,1),(0,2),(0,3),(0,4),(0,5),(0,6),(0,7),(0,8),(0,9),(0,10),(0,11),(0,12),(0,13),(0,14),(0,15),(0,16)] (by kernel_rfl) (by kernel_rfl) (by exact ⟨_,below_over (by repeat (first|assumption|exact Below.refl _ _|refine keep_drew ?_|refine keep_alloc ?_ _|refine keep_trans ?_ (by assumption)))⟩) ?_
     dsimp only[pickOps,nthOp]
     repeat (first|(refine wpS_skip rfl (fun K hK=>?_);go_big_quiet_op;refine hK _ ?_;clear hK K)|(refine wpS_quiet rfl rfl (fun K hK=>?_);go_big_quiet_op;refine hK _ ?_;clear hK K))
     refine wpS_end ?_
     go_wp2_with fail
     go_ret
     exact ⟨ret_int (by unfold symE;rw[if_pos (HE.out rfl)]),(fB.trans (hbr.mono fB.size)).drew⟩
    | false =>
     refine wp_region_S (fun w'=>∃u,w'=over (wr) u) [] [(0,0),(0,1),(0,2),(0,3),(0,4),(0,5),(0,6),(0,7),(0,8),(0,9),(0,10),(0,11),(0,12),(0,13),(0,14),(0,15),(0,16)] (by kernel_rfl) (by kernel_rfl) (by exact ⟨_,below_over (by repeat (first|assumption|exact Below.refl _ _|refine keep_drew ?_|refine keep_alloc ?_ _|refine keep_trans ?_ (by assumption)))⟩) ?_
     dsimp only[pickOps,nthOp]
     repeat (first|(refine wpS_skip rfl (fun K hK=>?_);go_big_quiet_op;refine hK _ ?_;clear hK K)|(refine wpS_quiet rfl rfl (fun K hK=>?_);go_big_quiet_op;refine hK _ ?_;clear hK K))
     refine wpS_end ?_
     go_wp2_with fail
     go_roundw
     case rel=>exact ⟨k+1,by omega,by go_num,HN.out rfl,hbr.drew⟩
     case measure=>simp[intOf];omega
  ·have e:k=n:=by omega
   subst e
   have HA:Hid ((cs.any fun x=>decide (x<low)||decide ((C:Int)≤x))=false):=any_upto (by rw[HL.out];exact hn1.out)
   have HE:Hid (symE low C cs=if twiceB C cs=true then 17 else 0):=by
    unfold Hid symE
    rw[if_neg (by rw[HA.out];decide)]
   generalize twiceB C cs=t at HT HE
   cases t with
   | true =>
    go_wp2_with (first|(go_at_call 157;refine (HT.out _ hbr).mono ?_;rintro _ w1 ⟨rfl,hb1⟩))
    go_ret
    exact ⟨ret_int HE.out.symm,keep_trans (fB.trans (hbr.mono fB.size)) hb1⟩
   | false =>
    go_wp2_with (first|(go_at_call 157;refine (HT.out _ hbr).mono ?_;rintro _ w1 ⟨rfl,hb1⟩))
    go_ret
    exact ⟨ret_int HE.out.symm,keep_trans (fB.trans (hbr.mono fB.size)) hb1⟩
theorem sq_wrap {N:Nat} (h:N≤16):wrap64 ((N:Int)*(N:Int))=((N*N:Nat):Int):=by
 rw[← Int.natCast_mul]
 have h1:N*N≤16*16:=Nat.mul_le_mul h h
 generalize N*N=q at h1 ⊢
 unfold wrap64
 omega
theorem rissq_c (r C:Int) (a:Option Addr) (n c:Nat) (cs:List Int) (w:World) (h:IC w a n cs) :
  Calls Tryz.prog 99 #[.agg #[.int .i64 r,.int .i64 C,.slice a n c]] w fun e w'=>e = .returned (.bool (sqB r C cs))∧Below w.heap.size w w':=by
 have hm:=h.small
 have hlen:=h.len
 clear h
 by_cases hrc:r=C
 ·subst hrc
  have hq:(r==r)=true:=by simp
  by_cases h1:1≤r
  ·have hd1:decide (r≥1)=true:=decide_eq_true h1
   by_cases h2:r≤16
   ·have hd2:decide (r≤16)=true:=decide_eq_true h2
    obtain ⟨N,rfl⟩:=Int.eq_ofNat_of_zero_le (show 0≤r by omega)
    have HE:Hid (sqB (N:Int) (N:Int) cs=((n:Int)==wrap64 ((N:Int)*(N:Int)))):=by
     unfold Hid sqB
     rw[sq_wrap (by omega),hlen,← Int.natCast_mul,hd2,show decide ((1:Int)≤(N:Int))=true from decide_eq_true h1,decide_eq_true rfl,Bool.true_and,Bool.true_and,Bool.true_and,Bool.eq_iff_iff,decide_eq_true_eq,beq_iff_eq]
    clear hlen
    go_enter Tryz.func99,Tryz.ntmps99
    go_wp2_with fail
    have fB:Below w.heap.size w (w.alloc (.cells #[.int .i64 (N:Int),.int .i64 (N:Int),.slice a n c] 24)):=(Below.refl _ _).alloc (Nat.le_refl _) _
    have FQ:Hid ((w.alloc (.cells #[.int .i64 (N:Int),.int .i64 (N:Int),.slice a n c] 24)).heap[w.heap.size]?=some (.cells #[.int .i64 (N:Int),.int .i64 (N:Int),.slice a n c] 24 (0,0))):=World.alloc_heap_new _ _
    generalize (w.alloc (.cells #[.int .i64 (N:Int),.int .i64 (N:Int),.slice a n c] 24))=W0 at fB FQ ⊢
    obtain ⟨x0,x1,x2,xl⟩:=c3_of FQ.out
    go_wp2_with fail
    go_ret
    exact ⟨ret_bool HE.out.symm,fB⟩
   ·have hd2:decide (r≤16)=false:=decide_eq_false h2
    have HE:Hid (sqB r r cs=false):=by
     unfold Hid sqB
     rw[hd2];simp
    clear hlen
    go_enter Tryz.func99,Tryz.ntmps99
    go_wp2_with fail
    have fB:Below w.heap.size w (w.alloc (.cells #[.int .i64 r,.int .i64 r,.slice a n c] 24)):=(Below.refl _ _).alloc (Nat.le_refl _) _
    have FQ:Hid ((w.alloc (.cells #[.int .i64 r,.int .i64 r,.slice a n c] 24)).heap[w.heap.size]?=some (.cells #[.int .i64 r,.int .i64 r,.slice a n c] 24 (0,0))):=World.alloc_heap_new _ _
    generalize (w.alloc (.cells #[.int .i64 r,.int .i64 r,.slice a n c] 24))=W0 at fB FQ ⊢
    obtain ⟨x0,x1,x2,xl⟩:=c3_of FQ.out
    go_wp2_with fail
    go_ret
    exact ⟨ret_bool HE.out.symm,fB⟩
  ·have hd1:decide (r≥1)=false:=decide_eq_false h1
   have HE:Hid (sqB r r cs=false):=by
    unfold Hid sqB
    rw[show decide (1≤r)=false from hd1];simp
   clear hlen
   go_enter Tryz.func99,Tryz.ntmps99
   go_wp2_with fail
   have fB:Below w.heap.size w (w.alloc (.cells #[.int .i64 r,.int .i64 r,.slice a n c] 24)):=(Below.refl _ _).alloc (Nat.le_refl _) _
   have FQ:Hid ((w.alloc (.cells #[.int .i64 r,.int .i64 r,.slice a n c] 24)).heap[w.heap.size]?=some (.cells #[.int .i64 r,.int .i64 r,.slice a n c] 24 (0,0))):=World.alloc_heap_new _ _
   generalize (w.alloc (.cells #[.int .i64 r,.int .i64 r,.slice a n c] 24))=W0 at fB FQ ⊢
   obtain ⟨x0,x1,x2,xl⟩:=c3_of FQ.out
   go_wp2_with fail
   go_ret
   exact ⟨ret_bool HE.out.symm,fB⟩
 ·have hq:(r==C)=false:=by simpa using hrc
  have HE:Hid (sqB r C cs=false):=by
   unfold Hid sqB
   rw[decide_eq_false hrc];simp
  clear hlen
  go_enter Tryz.func99,Tryz.ntmps99
  go_wp2_with fail
  have fB:Below w.heap.size w (w.alloc (.cells #[.int .i64 r,.int .i64 C,.slice a n c] 24)):=(Below.refl _ _).alloc (Nat.le_refl _) _
  have FQ:Hid ((w.alloc (.cells #[.int .i64 r,.int .i64 C,.slice a n c] 24)).heap[w.heap.size]?=some (.cells #[.int .i64 r,.int .i64 C,.slice a n c] 24 (0,0))):=World.alloc_heap_new _ _
  generalize (w.alloc (.cells #[.int .i64 r,.int .i64 C,.slice a n c] 24))=W0 at fB FQ ⊢
  obtain ⟨x0,x1,x2,xl⟩:=c3_of FQ.out
  go_wp2_with fail
  go_ret
  exact ⟨ret_bool HE.out.symm,fB⟩
theorem sqB_dims {r C:Int} {cs:List Int} (h:sqB r C cs=true):∃N:Nat,r=(N:Int)∧C=(N:Int)∧1≤N∧N≤16∧cs.length=N*N:=by
 unfold sqB at h
 simp only[Bool.and_eq_true,decide_eq_true_eq] at h
 obtain ⟨⟨⟨h1,h2⟩,h3⟩,h4⟩:=h
 refine ⟨r.toNat,by omega,by omega,by omega,by omega,?_⟩
 subst h1
 obtain ⟨N,rfl⟩:=Int.eq_ofNat_of_zero_le (show 0≤r by omega)
 rw[← Int.natCast_mul] at h4
 rw[show ((N:Int)).toNat=N from rfl]
 exact Int.ofNat.inj h4
theorem rcheck_c (r C:Int) (a:Option Addr) (n c:Nat) (cs:List Int) (w:World) (h:IC w a n cs) :
  Calls Tryz.prog 22 #[.agg #[.int .i64 r,.int .i64 C,.slice a n c]] w fun e w'=>e = .returned (.int .i64 (sqE 0 r C cs))∧Below w.heap.size w w':=by
 have HI:=Lib.hid (fun W (hb:Below w.heap.size w W)=>rissq_c r C a n c cs W (h.mono hb))
 cases hq:sqB r C cs with
 | false =>
  have HE:Hid (sqE 0 r C cs=2):=by unfold Hid sqE;rw[hq];rfl
  rw[hq] at HI
  clear hq h
  go_enter Tryz.func22,Tryz.ntmps22
  go_wp2_with fail
  have fB:Below w.heap.size w (w.alloc (.cells #[.int .i64 r,.int .i64 C,.slice a n c] 24)):=(Below.refl _ _).alloc (Nat.le_refl _) _
  have FQ:Hid ((w.alloc (.cells #[.int .i64 r,.int .i64 C,.slice a n c] 24)).heap[w.heap.size]?=some (.cells #[.int .i64 r,.int .i64 C,.slice a n c] 24 (0,0))):=World.alloc_heap_new _ _
  generalize (w.alloc (.cells #[.int .i64 r,.int .i64 C,.slice a n c] 24))=W0 at fB FQ ⊢
  obtain ⟨x0,x1,x2,xl⟩:=c3_of FQ.out
  go_wp2_with (first|(go_at_call 99;refine (HI.out _ fB).mono ?_;rintro _ w1 ⟨rfl,hb1⟩))
  go_ret
  exact ⟨ret_int HE.out.symm,keep_trans fB hb1⟩
 | true =>
  obtain ⟨N,rfl,rfl,hN1,hN2,hl⟩:=sqB_dims hq
  have HE:Hid (sqE 0 (N:Int) (N:Int) cs=symE 0 N cs):=by unfold Hid sqE;rw[hq];rfl
  have hn2:n≤65536:=by
   rw[← h.len,hl]
   exact Nat.le_trans (Nat.mul_le_mul hN2 hN2) (by decide)
  have HS:=Lib.hid (fun W (hb:Below w.heap.size w W)=>rlsym_c (N:Int) N a n c cs (0) W (h.mono hb) hN1 hn2)
  rw[hq] at HI
  clear hq h hl
  go_enter Tryz.func22,Tryz.ntmps22
  go_wp2_with fail
  have fB:Below w.heap.size w (w.alloc (.cells #[.int .i64 (N:Int),.int .i64 (N:Int),.slice a n c] 24)):=(Below.refl _ _).alloc (Nat.le_refl _) _
  have FQ:Hid ((w.alloc (.cells #[.int .i64 (N:Int),.int .i64 (N:Int),.slice a n c] 24)).heap[w.heap.size]?=some (.cells #[.int .i64 (N:Int),.int .i64 (N:Int),.slice a n c] 24 (0,0))):=World.alloc_heap_new _ _
  generalize (w.alloc (.cells #[.int .i64 (N:Int),.int .i64 (N:Int),.slice a n c] 24))=W0 at fB FQ ⊢
  obtain ⟨x0,x1,x2,xl⟩:=c3_of FQ.out
  go_wp2_with (first|(go_at_call 99;refine (HI.out _ fB).mono ?_;rintro _ w1 ⟨rfl,hb1⟩;clear x0 x1 x2 xl;obtain ⟨x0,x1,x2,xl⟩:=c3_of (keepq hb1 FQ.out))|(go_at_call 100;refine (HS.out _ (keep_trans fB hb1)).mono ?_;rintro _ w2 ⟨rfl,hb2⟩))
  go_ret
  exact ⟨ret_int HE.out.symm,keep_trans (keep_trans fB hb1) hb2⟩
theorem rpart_c (r C:Int) (a:Option Addr) (n c:Nat) (cs:List Int) (w:World) (h:IC w a n cs) :
  Calls Tryz.prog 25 #[.agg #[.int .i64 r,.int .i64 C,.slice a n c]] w fun e w'=>e = .returned (.int .i64 (sqE (-1) r C cs))∧Below w.heap.size w w':=by
 have HI:=Lib.hid (fun W (hb:Below w.heap.size w W)=>rissq_c r C a n c cs W (h.mono hb))
 cases hq:sqB r C cs with
 | false =>
  have HE:Hid (sqE (-1) r C cs=2):=by unfold Hid sqE;rw[hq];rfl
  rw[hq] at HI
  clear hq h
  go_enter Tryz.func25,Tryz.ntmps25
  go_wp2_with fail
  have fB:Below w.heap.size w (w.alloc (.cells #[.int .i64 r,.int .i64 C,.slice a n c] 24)):=(Below.refl _ _).alloc (Nat.le_refl _) _
  have FQ:Hid ((w.alloc (.cells #[.int .i64 r,.int .i64 C,.slice a n c] 24)).heap[w.heap.size]?=some (.cells #[.int .i64 r,.int .i64 C,.slice a n c] 24 (0,0))):=World.alloc_heap_new _ _
  generalize (w.alloc (.cells #[.int .i64 r,.int .i64 C,.slice a n c] 24))=W0 at fB FQ ⊢
  obtain ⟨x0,x1,x2,xl⟩:=c3_of FQ.out
  go_wp2_with (first|(go_at_call 99;refine (HI.out _ fB).mono ?_;rintro _ w1 ⟨rfl,hb1⟩))
  go_ret
  exact ⟨ret_int HE.out.symm,keep_trans fB hb1⟩
 | true =>
  obtain ⟨N,rfl,rfl,hN1,hN2,hl⟩:=sqB_dims hq
  have HE:Hid (sqE (-1) (N:Int) (N:Int) cs=symE (-1) N cs):=by unfold Hid sqE;rw[hq];rfl
  have hn2:n≤65536:=by
   rw[← h.len,hl]
   exact Nat.le_trans (Nat.mul_le_mul hN2 hN2) (by decide)
  have HS:=Lib.hid (fun W (hb:Below w.heap.size w W)=>rlsym_c (N:Int) N a n c cs ((-1)) W (h.mono hb) hN1 hn2)
  rw[hq] at HI
  clear hq h hl
  go_enter Tryz.func25,Tryz.ntmps25
  go_wp2_with fail
  have fB:Below w.heap.size w (w.alloc (.cells #[.int .i64 (N:Int),.int .i64 (N:Int),.slice a n c] 24)):=(Below.refl _ _).alloc (Nat.le_refl _) _
  have FQ:Hid ((w.alloc (.cells #[.int .i64 (N:Int),.int .i64 (N:Int),.slice a n c] 24)).heap[w.heap.size]?=some (.cells #[.int .i64 (N:Int),.int .i64 (N:Int),.slice a n c] 24 (0,0))):=World.alloc_heap_new _ _
  generalize (w.alloc (.cells #[.int .i64 (N:Int),.int .i64 (N:Int),.slice a n c] 24))=W0 at fB FQ ⊢
  obtain ⟨x0,x1,x2,xl⟩:=c3_of FQ.out
  go_wp2_with (first|(go_at_call 99;refine (HI.out _ fB).mono ?_;rintro _ w1 ⟨rfl,hb1⟩;clear x0 x1 x2 xl;obtain ⟨x0,x1,x2,xl⟩:=c3_of (keepq hb1 FQ.out))|(go_at_call 100;refine (HS.out _ (keep_trans fB hb1)).mono ?_;rintro _ w2 ⟨rfl,hb2⟩))
  go_ret
  exact ⟨ret_int HE.out.symm,keep_trans (keep_trans fB hb1) hb2⟩
end
section
theorem violates_none {sets:List (List Int)} {A:List Nat} (h:Violates sets A) {l:List Int} (hl:Sdr sets l):False:=by
 obtain ⟨N,hN,hA⟩:=h.few
 have h1:(A.map fun t=>l[t]?.getD 0).Nodup:=by
  have hinj:∀(B:List Nat),B.Nodup→(∀t,t∈B→t<sets.length)→(B.map fun t=>l[t]?.getD 0).Nodup:=by
   intro B
   induction B with
   | nil=>intro _ _;exact List.nodup_nil
   | cons t B ih =>
    intro hB hlt
    rw[List.nodup_cons] at hB
    rw[List.map_cons,List.nodup_cons]
    refine ⟨fun hm=>?_,ih hB.2 (fun u hu=>hlt u (List.mem_cons_of_mem _ hu))⟩
    obtain ⟨u,hu,e⟩:=List.mem_map.1 hm
    have ht:=hlt t List.mem_cons_self
    have hu2:=hlt u (List.mem_cons_of_mem _ hu)
    have hl1:=hl.len
    rw[List.getElem?_eq_getElem (by omega),List.getElem?_eq_getElem (by omega),Option.getD_some,Option.getD_some] at e
    have:=(List.getElem_inj (h₀:=by omega) (h₁:=by omega) hl.nodup).1 e
    exact hB.1 (this▸hu)
  exact hinj A h.nodup h.lt
 have h2:=nodupI_le (m:=N) h1 (fun x hx=>by
  obtain ⟨t,ht,e⟩:=List.mem_map.1 hx
  rw[← e]
  exact hA t ht _ (hl.mem t (h.lt t ht)))
 rw[List.length_map] at h2
 omega
theorem feasB_iff {sets:List (List Int)}:feasB sets=true↔∃l,Sdr sets l:=by
 have hH:Held sets 0 (fun _=>none):=⟨fun _ _ h=>(by cases h),fun _ _ _ _ h=>(by cases h),fun t ht=>absurd ht (by omega),fun _ _ h=>(by cases h)⟩
 obtain ⟨ha,hb⟩:=match_ok (F:=sets.flatten.length+1) (by omega) sets.length 0 (fun _=>none) (by omega) hH
 unfold feasB
 cases hm:matchM sets (sets.flatten.length+1) sets.length 0 (fun _=>none) with
 | inl g=>exact ⟨fun _=>ha g hm,fun _=>rfl⟩
 | inr A=>exact ⟨fun h=>(by cases h),fun ⟨l,hl⟩=>(violates_none (hb A hm).1 hl).elim⟩
def repR (sets:List (List Int)):Nat→List Int→Option (List Int)
 | 0,l=>some l
 | f+1,l=>(sets[l.length]?.getD []).findSome? fun x=>if x∈l then none else repR sets f (l++[x])
def Goes (sets:List (List Int)) (out l:List Int):Prop:=Sdr sets l∧l.take out.length=out
theorem take_snoc2 {l:List Int} {k:Nat} (hk:k<l.length):l.take (k+1)=l.take k++[l[k]?.getD 0]:=by
 rw[List.take_add_one,List.getElem?_eq_getElem hk]
 rfl
theorem repR_some {sets:List (List Int)}:∀{f:Nat} {out r:List Int},out.length+f=sets.length→out.Nodup→(∀i,i<out.length→out[i]?.getD 0∈sets[i]?.getD [])→repR sets f out=some r→Goes sets out r:=by
 intro f
 induction f with
 | zero =>
  intro out r hl hn hm h
  cases h
  exact ⟨⟨by omega,hn,fun i hi=>hm i (by omega)⟩,List.take_of_length_le (by omega)⟩
 | succ f ih =>
  intro out r hl hn hm h
  rw[repR] at h
  obtain ⟨x,hx,e⟩:=List.exists_of_findSome?_eq_some h
  by_cases hxo:x∈out
  ·rw[if_pos hxo] at e;cases e
  ·rw[if_neg hxo] at e
   have hg:=ih (out:=out++[x]) (by rw[List.length_append,List.length_singleton];omega) (by rw[List.nodup_append];exact ⟨hn,by simp,fun a ha b hb e3=>by simp at hb;rw[e3,hb] at ha;exact hxo ha⟩) (fun i hi=>by
    rw[List.length_append,List.length_singleton] at hi
    by_cases e2:i=out.length
    ·subst e2;rw[List.getElem?_append_right (by omega),Nat.sub_self];exact hx
    ·rw[List.getElem?_append_left (by omega)];exact hm i (by omega)) e
   refine ⟨hg.1,?_⟩
   have h2:=congrArg (List.take out.length) hg.2
   rw[List.take_take,List.length_append,List.length_singleton,Nat.min_eq_left (by omega),List.take_left' rfl] at h2
   exact h2
theorem repR_none {sets:List (List Int)}:∀{f:Nat} {out l:List Int},out.length+f=sets.length→repR sets f out=none→Goes sets out l→False:=by
 intro f
 induction f with
 | zero=>intro out l _ h;cases h
 | succ f ih =>
  intro out l hl h hg
  rw[repR,List.findSome?_eq_none_iff] at h
  have hll:=hg.1.len
  have hm:=hg.1.mem out.length (by omega)
  have h1:=h _ hm
  have hno:l[out.length]?.getD 0 ∉ out:=fun hin=>by
   have hin2:l[out.length]?.getD 0∈l.take out.length:=by rw[hg.2];exact hin
   obtain ⟨i,hi,e⟩:=List.getElem_of_mem hin2
   have hi2:=hi
   rw[List.length_take] at hi2
   rw[List.getElem_take,List.getElem?_eq_getElem (show out.length<l.length by omega),Option.getD_some] at e
   have:=(List.getElem_inj (h₀:=by omega) (h₁:=by omega) hg.1.nodup).1 e
   omega
  rw[if_neg hno] at h1
  exact ih (by rw[List.length_append,List.length_singleton];omega) h1 ⟨hg.1,by rw[List.length_append,List.length_singleton,take_snoc2 (by omega),hg.2]⟩
def Fast (sets:List (List Int)) (out:List Int) (left:List (List Int)):Prop:=left.length=sets.length∧(∀i,i<out.length→left[i]?.getD []=[out[i]?.getD 0])∧∀i,out.length≤i→left[i]?.getD []=sets[i]?.getD []
theorem fast_goes {sets left:List (List Int)} {out:List Int} (hF:Fast sets out left) (hol:out.length≤sets.length) (hm:∀i,i<out.length→out[i]?.getD 0∈sets[i]?.getD []):(∃l,Sdr left l)↔∃l,Goes sets out l:=by
 constructor
 ·rintro ⟨l,hl⟩
  have h1:=hl.len
  rw[hF.1] at h1
  have he:l.take out.length=out:=by
   apply List.ext_getElem?
   intro i
   by_cases hi:i<out.length
   ·have h2:=hl.mem i (by rw[hF.1];omega)
    rw[hF.2.1 i hi,List.mem_singleton] at h2
    rw[List.getElem?_take_of_lt hi,List.getElem?_eq_getElem (show i<l.length by omega),List.getElem?_eq_getElem hi]
    rw[List.getElem?_eq_getElem (show i<l.length by omega),List.getElem?_eq_getElem hi,Option.getD_some,Option.getD_some] at h2
    rw[h2]
   ·rw[List.getElem?_eq_none (by rw[List.length_take];omega),List.getElem?_eq_none (by omega)]
  refine ⟨l,⟨h1,hl.nodup,fun i hi=>?_⟩,he⟩
  by_cases hi2:i<out.length
  ·have h2:=hl.mem i (by rw[hF.1];omega)
   rw[hF.2.1 i hi2,List.mem_singleton] at h2
   rw[h2]
   exact hm i hi2
  ·have h2:=hl.mem i (by rw[hF.1];omega)
   rw[hF.2.2 i (by omega)] at h2
   exact h2
 ·rintro ⟨l,hl,he⟩
  refine ⟨l,by rw[hl.len,hF.1],hl.nodup,fun i hi=>?_⟩
  rw[hF.1] at hi
  by_cases hi2:i<out.length
  ·rw[hF.2.1 i hi2,List.mem_singleton]
   have h2:=congrArg (fun m=>m[i]?.getD 0) he
   simp only[List.getElem?_take_of_lt hi2] at h2
   exact h2
  ·rw[hF.2.2 i (by omega)]
   exact hl.mem i hi
theorem rep_eq {sets:List (List Int)}:∀{f:Nat} {out:List Int} {left:List (List Int)},out.length+f=sets.length→out.Nodup→(∀i,i<out.length→out[i]?.getD 0∈sets[i]?.getD [])→Fast sets out left→repP sets f out left=repR sets f out:=by
 intro f
 induction f with
 | zero=>intro out left _ _ _ _;rfl
 | succ f ih =>
  intro out left hl hn hm hF
  have hstep:∀x,x∈sets[out.length]?.getD []→x ∉ out→Fast sets (out++[x]) (left.set out.length [x])∧(out++[x]).length+f=sets.length∧(out++[x]).Nodup∧∀i,i<(out++[x]).length→(out++[x])[i]?.getD 0∈sets[i]?.getD []:=fun x hx hxo=>by
   refine ⟨⟨by rw[List.length_set];exact hF.1,fun i hi=>?_,fun i hi=>?_⟩,by rw[List.length_append,List.length_singleton];omega,by rw[List.nodup_append];exact ⟨hn,by simp,fun a ha b hb e3=>by simp at hb;rw[e3,hb] at ha;exact hxo ha⟩,fun i hi=>?_⟩
   ·rw[List.length_append,List.length_singleton] at hi
    have h1:=hF.1
    by_cases e2:i=out.length
    ·subst e2
     rw[List.getElem?_append_right (by omega),Nat.sub_self,List.getElem?_set,if_pos rfl,if_pos (by omega)]
     rfl
    ·rw[List.getElem?_append_left (by omega),List.getElem?_set,if_neg (fun e=>e2 e.symm)]
     exact hF.2.1 i (by omega)
   ·rw[List.length_append,List.length_singleton] at hi
    rw[List.getElem?_set,if_neg (by omega)]
    exact hF.2.2 i (by omega)
   ·rw[List.length_append,List.length_singleton] at hi
    by_cases e2:i=out.length
    ·subst e2;rw[List.getElem?_append_right (by omega),Nat.sub_self];exact hx
    ·rw[List.getElem?_append_left (by omega)];exact hm i (by omega)
  have hfe:∀x,x∈sets[out.length]?.getD []→x ∉ out→(feasB (left.set out.length [x])=true↔∃r,repR sets f (out++[x])=some r):=fun x hx hxo=>by
   obtain ⟨h1,h2,h3,h4⟩:=hstep x hx hxo
   rw[feasB_iff,fast_goes h1 (by omega) h4]
   constructor
   ·rintro ⟨l,hg⟩
    cases hr:repR sets f (out++[x]) with
    | some r=>exact ⟨r,rfl⟩
    | none=>exact (repR_none h2 hr hg).elim
   ·rintro ⟨r,hr⟩
    exact ⟨r,repR_some h2 h3 h4 hr⟩
  rw[repP,repR]
  have hgo:∀xs:List Int,(∀x,x∈xs→x∈sets[out.length]?.getD [])→(match xs.find? (fun x=>decide (x ∉ out)&&feasB (left.set out.length [x])) with
    | none=>none
    | some x=>repP sets f (out++[x]) (left.set out.length [x]))=xs.findSome? fun x=>if x∈out then none else repR sets f (out++[x]):=by
   intro xs
   induction xs with
   | nil=>intro _;rfl
   | cons x xs ihx =>
    intro hx
    have hx1:=hx x List.mem_cons_self
    have ihx:=ihx (fun y hy=>hx y (List.mem_cons_of_mem _ hy))
    rw[List.find?_cons,List.findSome?_cons]
    by_cases hxo:x∈out
    ·rw[if_pos hxo,decide_eq_false (fun h=>h hxo),Bool.false_and]
     exact ihx
    ·rw[if_neg hxo,decide_eq_true hxo,Bool.true_and]
     have h5:=hfe x hx1 hxo
     obtain ⟨h1,h2,h3,h4⟩:=hstep x hx1 hxo
     cases hr:repR sets f (out++[x]) with
     | some r =>
      rw[h5.2 ⟨r,hr⟩]
      show repP sets f (out++[x]) (left.set out.length [x])=some r
      rw[ih h2 h3 h4 h1,hr]
     | none =>
      have:feasB (left.set out.length [x])=false:=by
       rw[Bool.eq_false_iff]
       intro e
       obtain ⟨r,hr2⟩:=h5.1 e
       rw[hr] at hr2
       cases hr2
      rw[this]
      exact ihx
  exact hgo _ (fun _ h=>h)
end
section
def opens (cs:List Int):Nat:=cs.countP fun x=>decide (x<0)
end
end Go.Proofs.YtmfpdakaeagdpaaGreat
