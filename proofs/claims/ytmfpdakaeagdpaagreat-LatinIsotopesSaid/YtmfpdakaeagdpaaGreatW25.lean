/- Texts J98 to J103 of this proof, in one file. -/
import Derived.Test.YtmfpdakaeagdpaaGreatW01
import Derived.Test.YtmfpdakaeagdpaaGreatW02
import Derived.Test.YtmfpdakaeagdpaaGreatW03
import Derived.Test.YtmfpdakaeagdpaaGreatW04
import Derived.Test.YtmfpdakaeagdpaaGreatW05
import Derived.Test.YtmfpdakaeagdpaaGreatW06
import Derived.Test.YtmfpdakaeagdpaaGreatW07
import Derived.Test.YtmfpdakaeagdpaaGreatW08
import Derived.Test.YtmfpdakaeagdpaaGreatW09
import Derived.Test.YtmfpdakaeagdpaaGreatW10
import Derived.Test.YtmfpdakaeagdpaaGreatW11
import Derived.Test.YtmfpdakaeagdpaaGreatW12
import Derived.Test.YtmfpdakaeagdpaaGreatW13
import Derived.Test.YtmfpdakaeagdpaaGreatW14
import Derived.Test.YtmfpdakaeagdpaaGreatW15
import Derived.Test.YtmfpdakaeagdpaaGreatW16
import Derived.Test.YtmfpdakaeagdpaaGreatW17
import Derived.Test.YtmfpdakaeagdpaaGreatW18
import Derived.Test.YtmfpdakaeagdpaaGreatW19
import Derived.Test.YtmfpdakaeagdpaaGreatW20
import Derived.Test.YtmfpdakaeagdpaaGreatW21
import Derived.Test.YtmfpdakaeagdpaaGreatW22
import Derived.Test.YtmfpdakaeagdpaaGreatW23
import Derived.Test.YtmfpdakaeagdpaaGreatW24
import Derived.Below
import Derived.BigFrame
import Derived.BigQuiet
import Derived.Deep.CutBlock
import Derived.Deep.CutRange
import Derived.Deep.LoopGhost
import Derived.Deep.Quiet
import Derived.Deep.RegionHeld3
import Derived.DeepKeys4
import Derived.KernelRfl
import Derived.Laws.BitsAllLaws
import Derived.Laws.EntriesVeiled
import Derived.Lib.AppendZeros
import Derived.Lib.Hide
import Derived.Lib.SlKeysI
import Derived.Lib.SliceRun
import Derived.LoopIn
import Derived.LoopNIn
import Derived.Maps.AppendAt
import Derived.Maps.OwnIn
import Derived.Maps.OwnSet
import Derived.OneCell
import Derived.OrdersHeld
import Derived.OrdersIn
import Derived.OwnWalkIn
import Derived.RangeFuncBound
import Derived.RangeFuncBox
import Derived.RangeFuncCalls
import Derived.RangeFuncLeaves
import Derived.RangeFuncNested
import Derived.RangeFuncWrites
import Derived.Shelf.Abstract
import Derived.Shelf.SortM.Plain
import Derived.Still
import Derived.TacticsIn
import Derived.TacticsInMore
import Derived.Test.YtmfpdakaeagdpaaGreatProg
import Derived.WalkKit
import Derived.WalkLawsBesides
import Derived.WalkSpells
import Derived.WideKeyPair
namespace Go.Proofs.YtmfpdakaeagdpaaGreat
set_option maxRecDepth 100000
set_option maxHeartbeats 16000000
section
open Go Go.RowKit
attribute [local go_sem] over_cell
attribute [local go_sem] Oper.semAt_some
def famS (N k i j:Nat):Int:=fAdd N (fTimes N k i).toNat j
def famG (N k:Nat):List Int:=madeTo N (famS N k) (N*N)
theorem famL_eq (N:Nat):famL N=(List.range (N - 1)).map fun k=>famG N (k+1):=rfl
theorem famL_len (N:Nat):(famL N).length=N - 1:=by simp[famL]
theorem famL_take (N k:Nat) (h1:1≤k) (h:k<N):(famL N).take (k+1 - 1)=(famL N).take (k - 1)++[famG N k]:=by
 obtain ⟨m,rfl⟩:∃m,k=m+1:=⟨k - 1,by omega⟩
 rw[show m+1+1 - 1=m+1 by omega,show m+1 - 1=m by omega,List.take_add_one,famL_eq,List.getElem?_map,List.getElem?_range (by omega)]
 rfl
theorem own_lift {W:World} {L n size:Nat} {e:TypeId} {v:Value} {xs:List Value} (h:W.ownsRow 0 e size v n xs) (hk:∀k,v.ownBlock=some k→L≤k):W.ownsRow L e size v n xs:=by
 refine ⟨h.1,h.2.imp id ?_⟩
 rintro ⟨g,cap,cur,rfl,_,r⟩
 exact ⟨g,cap,cur,rfl,hk g rfl,r⟩
theorem fam1_c (N k i j b4 bk:Nat) (az:Option Addr) (cz:Nat) (h2:N≤16) (hf:fldB N=true) (hk:k<N) (hi:i<N) (hj:j<N) (w:World) (hz:IC w az (fldZ N).length (fldZ N))
  (q:w.heap[b4]?=some (.cells #[.int .i64 (N:Int),.int .i64 (fldP N:Int),.slice az (fldZ N).length cz] 136 (0,0))) (qk:w.heap[bk]?=some (.cells #[.int .i64 (k:Int)] 3 (0,0))) :
  Calls Tryz.prog 133 #[.int .i64 (i:Int),.int .i64 (j:Int),.pointer (some ⟨b4,0,none⟩),.pointer (some ⟨bk,0,none⟩)] w fun e w'=>e = .returned (.int .i64 (famS N k i j))∧Below w.heap.size w w':=by
 obtain ⟨x0,x1,x2,xl⟩:=c3_of q
 obtain ⟨y0,yf,yl⟩:=c1_of qk
 have hT:=fTimes_num (x:=k) (y:=i) h2 hf
 have H1:=Lib.hid (fun W (hb:Below w.heap.size w W)=>ftimes_c N k i h2 hf (by omega) (by omega) az cz W (hz.mono hb))
 rw[show fTimes N k i=((fTimes N k i).toNat:Int) by omega] at H1
 have H2:=Lib.hid (fun W=>fadd_c N (fTimes N k i).toNat j h2 hf (by omega) (by omega) az cz W)
 have HS:Hid (famS N k i j=fAdd N (fTimes N k i).toNat j):=rfl
 generalize (fTimes N k i).toNat=T at H1 H2 HS
 generalize famS N k i j=R at HS ⊢
 rw[← HS.out] at H2
 generalize fldP N=p at *
 generalize (fldZ N).length=n at *
 clear hf hz q qk hT HS
 go_enter Tryz.func133,Tryz.ntmps133
 go_upto_region 1 with fail
 refine wp_region_S (fun w'=>∃u,w'=over (w) u) [7,6] [(0,0),(0,1),(0,2),(0,3),(0,5),(1,4),(2,6),(2,7)] (by kernel_rfl) (by kernel_rfl) (by exact ⟨_,below_over (by repeat (first|assumption|exact Below.refl _ _|refine keep_drew ?_|refine keep_alloc ?_ _|refine keep_trans ?_ (by assumption)))⟩) ?_
 dsimp only[pickOps,nthOp]
 repeat (first|(refine wpS_skip rfl (fun K hK=>?_);go_big_quiet_op;refine hK _ ?_;clear hK K)|(refine wpS_quiet rfl rfl (fun K hK=>?_);go_big_quiet_op;refine hK _ ?_;clear hK K)|(refine wpS_loud ?_;go_wp2_with (first|(go_at_call 132;(with_reducible refine (H1.out _ (by (repeat (first|assumption|exact Below.refl _ _|refine keep_drew ?_|refine keep_alloc ?_ _|refine keep_trans ?_ (by assumption))))).mono ?_);rintro _ w5 ⟨rfl,hb5⟩)|(go_at_call 131;(with_reducible refine (H2.out _).mono ?_);rintro _ w7 ⟨rfl,hb7⟩)|fail);refine ⟨?_,?_⟩;focus (exact ⟨_,below_over (by repeat (first|assumption|exact Below.refl _ _|refine keep_drew ?_|refine keep_alloc ?_ _|refine keep_trans ?_ (by assumption)))⟩)))
 refine wpS_late _ _ _ rfl ?_
 dsimp only[List.map]
 go_wp2_with (first|(go_at_call 132;(with_reducible refine (H1.out _ (by (repeat (first|assumption|exact Below.refl _ _|refine keep_drew ?_|refine keep_alloc ?_ _|refine keep_trans ?_ (by assumption))))).mono ?_);rintro _ w5 ⟨rfl,hb5⟩)|(go_at_call 131;(with_reducible refine (H2.out _).mono ?_);rintro _ w7 ⟨rfl,hb7⟩)|fail)
 refine NoPanic.normal ?_
 go_wp2_with fail
 refine bodyPost_ret (v := .int .i64 R) ?_ rfl ⟨rfl,show Below w.heap.size w w7 by (repeat (first|assumption|exact Below.refl _ _|refine keep_drew ?_|refine keep_alloc ?_ _|refine keep_trans ?_ (by assumption)))⟩
 simp[results,Tryz.f133,go_sem]
theorem enterFam:∀args w,Sem.run Tryz.prog (callFunc 133 args) w = .ok (.enter 133 args) w:=by
 intro args w;kernel_rfl
def boxN (W:World):Value→Nat
 | .pointer (some p)=>match W.cell? p with|some v=>(intOf v).toNat|none=>0
 | _=>0
theorem boxN_eq {W:World} {b k:Nat} {T:TypeId} (h:W.heap[b]?=some (.cells #[.int .i64 (k:Int)] T (0,0))):boxN W (.pointer (some ⟨b,0,none⟩))=k:=by
 have:=(c1_of h).1
 simp[boxN,this,intOf]
theorem family_ok (N:Nat) (h1:1≤N) (h2:N≤16) (hf:fldB N=true) (w:World):Calls Tryz.prog 57 #[.int .i64 (N:Int)] w (GridsE w N (famL N) 0):=by
 obtain ⟨i0,hi,hz0,hz1,hz2⟩:=info_parts infoGrid
 have HK:=Lib.hid (fun W=>ckfield_ok N h1 h2 W)
 rw[hf,show whenV (!true) 15=0 from rfl] at HK
 have HF:=Lib.hid hf
 clear hf
 go_enter Tryz.func57,Tryz.ntmps57
 go_upto_region 2 with (first|(go_at_call 130;refine (HK.out _).mono ?_;rintro _ w2 ⟨az,cz,rfl,hI2,hb2⟩)|fail)
 have hs2:=hb2.size
 have gsz:(w2.alloc (.cells #[.int .i64 (N:Int),.int .i64 (fldP N:Int),.slice az (fldZ N).length cz] 136)).heap.size=w2.heap.size+1:=by simp only[World.size_alloc]
 have gB:Below w2.heap.size w2 (w2.alloc (.cells #[.int .i64 (N:Int),.int .i64 (fldP N:Int),.slice az (fldZ N).length cz] 136)):=(Below.refl _ _).alloc (Nat.le_refl _) _
 have gq0:(w2.alloc (.cells #[.int .i64 (N:Int),.int .i64 (fldP N:Int),.slice az (fldZ N).length cz] 136)).heap[w2.heap.size]?=some (.cells #[.int .i64 (N:Int),.int .i64 (fldP N:Int),.slice az (fldZ N).length cz] 136 (0,0)):=by have h:=World.alloc_heap_new w2 (.cells #[.int .i64 (N:Int),.int .i64 (fldP N:Int),.slice az (fldZ N).length cz] 136);exact h
 generalize (w2.alloc (.cells #[.int .i64 (N:Int),.int .i64 (fldP N:Int),.slice az (fldZ N).length cz] 136))=W3 at gsz gB gq0 ⊢
 have hs3:=gB.size
 have HB3:=Lib.hid (keep_trans hb2 gB)
 have HI3:=Lib.hid (hI2.mono gB)
 have Q3:=Lib.hid gq0
 clear gsz gq0 gB hb2 hI2
 go_upto_region 6 with fail
 go_loopw [6,7] (fun s6 s7 wr=>∃(k bk:Nat) (pre:List (Value × List Int)),1≤k∧k≤N∧s7 = .pointer (some ⟨bk,0,none⟩)∧Hid (Below W3.heap.size W3 wr)∧Hid (wr.heap[bk]?=some (.cells #[.int .i64 (k:Int)] 3 (0,0)))∧Hid (GridsI N wr noB W3.heap.size s6 pre)∧Hid (pre.map Prod.snd=(famL N).take (k - 1))∧W3.heap.size≤bk∧Hid (∀j,s6.ownBlock=some j→j≠bk)) (fun _ s7 wr=>N - boxN wr s7)
 case atStart=>exact ⟨1,W3.heap.size,[],by omega,h1,rfl,keep_alloc (Below.refl _ _) _,World.alloc_heap_new _ _,GridsI.nil _ _ _ _,rfl,Nat.le_refl _,fun _ e=>by cases e⟩
 case round =>
  obtain ⟨k,bk,pre,hk1,hkN,rfl,hB,hq,hG,hP,hbk,hne⟩:=hrel
  obtain ⟨y0,yf,yl⟩:=c1_of hq.out
  have hpl:pre.length=k - 1:=by
   have:=congrArg List.length hP.out
   rw[List.length_map,List.length_take,famL_len] at this
   omega
  obtain ⟨av,cv,hs6⟩:=owns_shape3 hG.out.1
  subst hs6
  by_cases hlt:k<N
  ·have hki:(k:Int)<(N:Int):=by omega
   have HM:=Lib.hid (fun W (hb:Below wr.heap.size wr W)=>made_g N (by omega) 133 #[] #[.pointer (some ⟨w2.heap.size,0,none⟩),.pointer (some ⟨bk,0,none⟩)] (famS N k) (famG N k) W rfl enterFam (fun i j hi hj W' hb' =>
    fam1_c N k i j w2.heap.size bk az cz h2 HF.out hlt hi hj W' (HI3.out.mono (keep_trans hB.out (keep_trans hb hb'))) (keepq (keep_trans hB.out (keep_trans hb hb')) Q3.out) (keepq (keep_trans hb hb') hq.out)))
   have hgl:(famG N k).length=N*N:=madeTo_len _ _ _
   have HPL:=Lib.hid hpl
   have HGL:=Lib.hid hgl
   clear hpl hgl
   go_wp2_with (first|(go_at_call 94;(with_reducible refine (HM.out _ (by (repeat (first|assumption|exact Below.refl _ _|refine keep_drew ?_|refine keep_alloc ?_ _|refine keep_trans ?_ (by assumption))))).mono ?_);rintro _ w5 ⟨a5,c5,rfl,hown5,hb5⟩;have hG5:=hG.out.below hb5;have hs5:=hb5.size)|(at_builtin;refine wpList_append_own2 _ rfl _ _ 35 rfl 24 i0 (.agg #[.int .i64 0,.int .i64 0,.slice none 0 0]) 3 40 Tryz.underlying35 hi hz0 hz1 hz2 rfl (by decide) _ _ _ rfl (owns_base (hG5.1.alloc _) (Nat.zero_le _)) ⟨w5.heap.size,0,none⟩ 1 1 [.int .i64 (N:Int),.int .i64 (N:Int),.slice a5 (famG N k).length c5] rfl rfl (cell_new3 _ _ _ _ _) (by simp[Value.oneCell']) (by have:=HPL.out;unfold maxLen;omega) (by have:=HPL.out;omega) ?_;intro v7 w7 hown7 hgr7 hk7;have hs7:=grow_stays hgr7;have q7:=hs7.q (keepq hb5 hq.out) (fun e=>hne.out _ e rfl);obtain ⟨z0,zf,zl⟩:=c1_of q7)|fail)
   have hwr:=hB.out.size
   have hown7L:=own_lift hown7 (L:=W3.heap.size) (fun j e=>(hk7 j e).elim (fun e2=>(hG5.1.lt j e2).1) (fun h=>by simp at h;omega))
   have hGn:=hG5.append (x:=(.slice a5 (famG N k).length c5,famG N k)) (fun _ h=>h.elim) (owns_base hown5 (Nat.zero_le _)) (fun j e=>⟨⟨by have:=(hown5.lt j e).1;omega,fun h=>h⟩,fun e2=>by have h3:=(hown5.lt j e).1;have h4:=(hG.out.1.lt j e2).2;omega⟩) hs7 hown7L (fun j e=>(hk7 j e).imp id (fun h=>by simp at h;omega))
   have hB7:=hs7.below' (B:=W3.heap.size) (w0:=W3) (by omega) (keep_trans hB.out hb5) (fun j e=>(hG5.1.lt j e).1)
   have hs75:=hs7.size
   have hq8:(w7.alloc (.cells #[.int .i64 ((k:Int)+1)] 3)).heap[w7.heap.size]?=some (.cells #[.int .i64 ((k+1:Nat):Int)] 3 (0,0)):=World.alloc_heap_new _ _
   refine ⟨⟨k+1,w7.heap.size,pre++[(Value.slice a5 (famG N k).length c5,famG N k)],by omega,by omega,rfl,keep_alloc hB7 _,hq8,hGn.below (keep_alloc (Below.refl _ _) _),?_,by omega,fun j e=>by have:=(hGn.1.lt j e).2;omega⟩,?_⟩
   ·unfold Hid
    rw[List.map_append,hP.out,famL_take N k hk1 hlt]
    rfl
   ·rw[boxN_eq hq8,boxN_eq hq.out]
    omega
  ·have e:k=N:=by omega
   have hno:¬(k:Int)<(N:Int):=by omega
   have hGL:=hG.out.gl (by omega) (fun x hx=>by
    have hx2:=List.mem_map_of_mem (f:=Prod.snd) hx
    rw[hP.out] at hx2
    have hx3:=List.mem_of_mem_take hx2
    rw[famL_eq] at hx3
    obtain ⟨j,_,hj⟩:=List.mem_map.1 hx3
    rw[← hj,show (famG N (j+1)).length=N*N from madeTo_len _ _ _]
    have:=Nat.mul_le_mul h2 h2
    omega)
   obtain ⟨a9,c9,he9,hg9⟩:=hGL
   cases he9
   rw[hP.out,e,show (famL N).take (N - 1)=famL N from List.take_of_length_le (by rw[famL_len];omega)] at hg9
   have hl9:pre.length=(famL N).length:=by rw[famL_len];omega
   rw[hl9] at hg9 ⊢
   have HG9:=Lib.hid hg9
   have HB9:=Lib.hid (keep_trans HB3.out hB.out)
   clear hG hg9 hP hpl hl9 e
   go_wp2_with fail
   refine bodyPost_ret (v := .tuple #[.slice av (famL N).length cv,.int .i64 0]) ?_ rfl ⟨av,cv,rfl,HG9.out,HB9.out⟩
   simp[results,Tryz.f57,go_sem]
end
section
open Go Go.RowKit
attribute [local go_sem] over_cell
attribute [local go_sem] Oper.semAt_some
theorem Kinds_bad (r C:Int) (a:Option Addr) (m c:Nat) (cs:List Int) (w:World) (h:IC w a m cs) (er:Int) (he:sqE 0 r C cs=er) (h0:er≠0):Calls Tryz.prog 72 #[.agg #[.int .i64 r,.int .i64 C,.slice a m c]] w (KindsE w [] er):=by
 have HK:=Lib.hid (fun W (hb:Below w.heap.size w W)=>latcheck_c r C a m c cs W (h.mono hb))
 rw[he] at HK
 have h0':(er != 0)=true:=by simpa using h0
 clear he h h0
 go_enter Tryz.func72,Tryz.ntmps72
 go_upto_region 1 with fail
 have fsz:(w.alloc (.cells #[.int .i64 r,.int .i64 C,.slice a m c] 24)).heap.size=w.heap.size+1:=by simp only[World.size_alloc]
 have fB:Below w.heap.size w (w.alloc (.cells #[.int .i64 r,.int .i64 C,.slice a m c] 24)):=(Below.refl _ _).alloc (Nat.le_refl _) _
 have fq0:(w.alloc (.cells #[.int .i64 r,.int .i64 C,.slice a m c] 24)).heap[w.heap.size]?=some (.cells #[.int .i64 r,.int .i64 C,.slice a m c] 24 (0,0)):=by have h:=World.alloc_heap_new w (.cells #[.int .i64 r,.int .i64 C,.slice a m c] 24);exact h
 generalize (w.alloc (.cells #[.int .i64 r,.int .i64 C,.slice a m c] 24))=W0 at fsz fB fq0 ⊢
 obtain ⟨x0,x1,x2,xl⟩:=c3_of fq0
 clear fq0 fsz
 go_wp2_with (first|(go_at_call 58;refine (HK.out _ fB).mono ?_;rintro _ w2 ⟨rfl,hb2⟩)|fail)
 refine bodyPost_ret (v := .tuple #[.slice none 0 0,.int .i64 er]) ?_ rfl ⟨none,0,rfl,World.ownsRow_nil _ _ _ _,keep_trans fB hb2⟩
 simp[results,Tryz.f72,go_sem]
theorem Kinds_ok (N:Nat) (a:Option Addr) (m c:Nat) (cs:List Int) (w:World) (h:IC w a m cs) (hcap:m≤c) (L:Latin N cs) (h0:sqE 0 (N:Int) (N:Int) cs=0):Calls Tryz.prog 72 #[.agg #[.int .i64 (N:Int),.int .i64 (N:Int),.slice a m c]] w (KindsE w (kNames N cs 7) 0):=by
 obtain ⟨i0,hi,hz0,hz1,hz2⟩:=info_parts infoStr
 have HK:=Lib.hid (fun W (hb:Below w.heap.size w W)=>latcheck_c (N:Int) (N:Int) a m c cs W (h.mono hb))
 rw[h0] at HK
 have HI:=Lib.hid h
 have HL:=Lib.hid L
 clear h h0 L
 go_enter Tryz.func72,Tryz.ntmps72
 go_upto_region 1 with fail
 have fsz:(w.alloc (.cells #[.int .i64 (N:Int),.int .i64 (N:Int),.slice a m c] 24)).heap.size=w.heap.size+1:=by simp only[World.size_alloc]
 have fB:Below w.heap.size w (w.alloc (.cells #[.int .i64 (N:Int),.int .i64 (N:Int),.slice a m c] 24)):=(Below.refl _ _).alloc (Nat.le_refl _) _
 have fq0:(w.alloc (.cells #[.int .i64 (N:Int),.int .i64 (N:Int),.slice a m c] 24)).heap[w.heap.size]?=some (.cells #[.int .i64 (N:Int),.int .i64 (N:Int),.slice a m c] 24 (0,0)):=by have h:=World.alloc_heap_new w (.cells #[.int .i64 (N:Int),.int .i64 (N:Int),.slice a m c] 24);exact h
 generalize (w.alloc (.cells #[.int .i64 (N:Int),.int .i64 (N:Int),.slice a m c] 24))=W0 at fsz fB fq0 ⊢
 have Q0:=Lib.hid fq0
 have hs0:w.heap.size+1=W0.heap.size:=fsz.symm
 obtain ⟨x0,x1,x2,xl⟩:=c3_of fq0
 clear fq0 fsz
 go_wp2_with (first|(go_at_call 58;refine (HK.out _ fB).mono ?_;rintro _ w2 ⟨rfl,hb2⟩)|(go_at_call 144;refine (kinds_c _).mono ?_;rintro _ w3 ⟨rfl,hw3⟩;have HW3:=Lib.hid hw3;clear hw3)|fail)
 have hw3:=HW3.out
 have hs2:=hb2.size
 have hb3:Below w2.heap.size w2 w3:=by rw[hw3];exact keep_alloc (Below.refl _ _) _
 have hq3:w3.heap[w2.heap.size]?=some (.cells kCells 146 (0,0)):=by rw[hw3];exact World.alloc_heap_new _ _
 have hs3:w3.heap.size=w2.heap.size+1:=by rw[hw3];simp
 have hB3:Below w.heap.size w w3:=keep_trans (keep_trans fB hb2) hb3
 have Q3:=Lib.hid hq3
 have Q0':=Lib.hid (keepq (keep_trans hb2 hb3) Q0.out)
 have HB3:=Lib.hid hB3
 clear hw3 HW3 hb3 hq3 hB3 hb2 fB x0 x1 x2 xl
 go_loopw [5,7,15] (fun s5 _ s15 wr=>∃k:Nat,k≤7∧s15 = .int .i64 (k:Int)∧Hid (Below w3.heap.size w3 wr)∧Hid (wr.ownsRow w3.heap.size 9 1 s5 (kindTo N cs k).length ((kindTo N cs k).map fun i => .string (kStr i)))) (fun _ _ s15 _=>7 - (intOf s15).toNat)
 case atStart=>exact ⟨0,by omega,rfl,Below.refl _ _,World.ownsRow_nil _ _ _ _⟩
 case round =>
  obtain ⟨k,hk,rfl,hB,hO⟩:=hrel
  obtain ⟨av,cv,hs5⟩:=owns_shape hO.out
  subst hs5
  by_cases hlt:k<7
  ·have hki:(k:Int)<7:=by omega
   obtain ⟨y0,y1⟩:=k_cells (keepq hB.out Q3.out) hlt
   obtain ⟨x0,x1,x2,xl⟩:=c3_of (keepq hB.out Q0'.out)
   have hE:=enterK k hlt
   have hC:=fun W (hb:Below w.heap.size w W)=>kall_c N a m c cs k hlt W (HI.out.mono hb) hcap HL.out
   have hT:=kindTo_succ N cs k
   have hlen:(kindTo N cs k).length≤k:=by unfold kindTo;exact Nat.le_trans (List.length_filter_le _ _) (by simp)
   generalize kFn k=fk at y1 hE hC
   generalize (kindsB N cs)[k]?.getD false=bb at hC hT
   have HC:=Lib.hid hC
   have HT:=Lib.hid hT
   clear hC hT
   cases bb with
   | true =>
    have hO4:=hO.out.alloc (.cells #[.string (kStr k),.func (.func fk) #[] #[]] 146)
    have hwr:=hB.out.size
    have hA:Below wr.heap.size wr (wr.alloc (.cells #[.string (kStr k),.func (.func fk) #[] #[]] 146)):=keep_alloc (Below.refl _ _) _
    have q4:=World.alloc_heap_new wr (.cells #[.string (kStr k),.func (.func fk) #[] #[]] 146)
    have HA:=Lib.hid hA
    have HO4:=Lib.hid hO4
    have Q4:=Lib.hid q4
    clear hA hO4 q4
    go_wp2_with (first|(with_reducible refine (HC.out _ (keep_trans HB3.out (keep_trans hB.out HA.out))).mono ?_;rintro _ w5 ⟨rfl,hb5⟩;have hO5:=owns_keep HO4.out (fun j _ hl=>hb5.block j hl);have z0:=q_cell (keepq hb5 Q4.out) 0;have hs5:=hb5.size;simp only[World.size_alloc] at hs5)|(at_builtin;refine wpList_append_any _ rfl _ _ 84 rfl w3.heap.size 9 i0 (.string ⟨#[]⟩) 16 Tryz.underlying84 hi hz0 hz1 hz2 rfl _ _ _ rfl (hO5.alloc _) (by simp only[World.size_alloc];omega) _ _ _ [.string (kStr k)] rfl rfl (.inl ⟨_,rfl,cell_one_new _ _ _⟩) (by simp[Value.oneCell']) (by unfold maxLen;omega) (by omega) ?_;intro v7 w7 hown7 hst7 hk7;have hb7:=hst7.below' (B:=w3.heap.size) (w0:=w3) (by simp only[World.size_alloc];omega) (keep_alloc (keep_trans (keep_trans hB.out HA.out) hb5) _) (fun j e=>(hO5.lt j e).1))|fail)
    go_roundw
    case rel=>exact ⟨k+1,by omega,by go_num,hb7,by rw[HT.out,if_pos trivial,List.length_append,List.map_append];exact hown7⟩
    case measure=>simp[intOf];omega
   | false =>
    have HA:Hid (Below wr.heap.size wr (wr.alloc (.cells #[.string (kStr k),.func (.func fk) #[] #[]] 146))):=keep_alloc (Below.refl _ _) _
    go_wp2_with (first|(with_reducible refine (HC.out _ (keep_trans HB3.out (keep_trans hB.out HA.out))).mono ?_;rintro _ w5 ⟨rfl,hb5⟩)|fail)
    go_roundw
    case rel=>exact ⟨k+1,by omega,by go_num,keep_trans (keep_trans hB.out HA.out) hb5,by rw[HT.out,if_neg (by simp)];exact owns_keep (hO.out.alloc _) (fun j _ hl=>hb5.block j hl)⟩
    case measure=>simp[intOf];omega
  ·have e:k=7:=by omega
   have hno:¬(k:Int)<7:=by omega
   have hO9:wr.ownsRow w.heap.size 9 1 (.slice av (kNames N cs 7).length cv) (kNames N cs 7).length ((kNames N cs 7).map Value.string):=by
    rw[e] at hO
    have:=owns_base hO.out (show w.heap.size≤w3.heap.size from HB3.out.size)
    unfold kNames
    rw[List.length_map,List.map_map]
    exact this
   have hl:(kindTo N cs k).length=(kNames N cs 7).length:=by rw[e];simp[kNames]
   rw[hl]
   have HO9:=Lib.hid hO9
   clear hO9 hO hl e
   go_wp2_with fail
   refine bodyPost_ret (v := .tuple #[.slice av (kNames N cs 7).length cv,.int .i64 0]) ?_ rfl ⟨av,cv,rfl,HO9.out,keep_trans HB3.out hB.out⟩
   simp[results,Tryz.f72,go_sem]
theorem Kinds_c (r C:Int) (a:Option Addr) (m c:Nat) (cs:List Int) (w:World) (h:IC w a m cs) (hcap:m≤c):Calls Tryz.prog 72 #[.agg #[.int .i64 r,.int .i64 C,.slice a m c]] w (KindsE w (kiL r C cs) (sqE 0 r C cs)):=by
 by_cases h0:sqE 0 r C cs=0
 ·obtain ⟨N,rfl,rfl,L⟩:=sqE_ok h0
  rw[show kiL (N:Int) (N:Int) cs=kNames N cs 7 from if_pos h0,h0]
  exact Kinds_ok N a m c cs w h hcap L h0
 ·rw[show kiL r C cs=[] from if_neg h0]
  exact Kinds_bad r C a m c cs w h _ rfl h0
end
section
open Go Go.RowKit
attribute [local go_sem] over_cell
attribute [local go_sem] Oper.semAt_some
theorem made_zeroR (n:Nat):(madeCells (Value.int .i64 0).cells (n*1)).toList=(List.replicate n (0:Int)).map (Value.int .i64):=by
 rw[List.map_replicate]
 apply List.ext_getElem?
 intro i
 by_cases h:i<n
 ·simp[madeCells,h,Value.cells,Nat.mod_one]
 ·simp[madeCells,h]
def fillTo (N:Nat) (s:Nat→Nat→Int) (m k:Nat):List Int:=madeTo N s k++List.replicate (m - k) 0
theorem fillTo_zero (N:Nat) (s:Nat→Nat→Int) (m:Nat):fillTo N s m 0=List.replicate m 0:=by simp[fillTo,madeTo]
theorem fillTo_end (N:Nat) (s:Nat→Nat→Int) (m:Nat):fillTo N s m m=madeTo N s m:=by simp[fillTo]
theorem fillTo_next {N:Nat} {s:Nat→Nat→Int} {m k:Nat} (h:k<m):(fillTo N s m k).set k (s (k / N) (k % N))=fillTo N s m (k+1):=by
 unfold fillTo
 rw[show madeTo N s (k+1)=madeTo N s k++[s (k / N) (k % N)] by unfold madeTo;rw[List.range_succ,List.map_append,List.map_singleton],List.set_append_right _ _ (by rw[madeTo_len];exact Nat.le_refl _),madeTo_len,Nat.sub_self,List.append_assoc]
 congr 1
 rw[show m - k=(m - (k+1))+1 by omega,List.replicate_succ,List.set_cons_zero];rfl
theorem fillTo_set {N:Nat} {s:Nat→Nat→Int} {m i j:Nat} (hj:j<N) (h:i*N+j<m):(fillTo N s m (i*N+j)).set (i*N+j) (s i j)=fillTo N s m (i*N+j+1):=by
 have:=fillTo_next (s:=s) (N:=N) h
 rw[(gcell_div hj).1,(gcell_div hj).2] at this
 exact this
theorem rsq_c (n m:Nat) (hm:m=n*n) (hn:n≤256) (w:World):Calls Tryz.prog 101 #[.int .i64 (n:Int)] w fun e w'=>∃g,e = .returned (.agg #[.int .i64 (n:Int),.int .i64 (n:Int),.slice (some ⟨g,0,none⟩) m m])∧OI w' (w.heap.size+1) g m m (List.replicate m 0)∧Below w.heap.size w w':=by
 obtain ⟨i0,hi,hz0,hz1,hz2⟩:=info_parts infoInt
 have hmb:m≤65536:=by rw[hm];exact Nat.mul_le_mul hn hn
 have hmul:wrap64 ((n:Int)*(n:Int))=(m:Int):=wrapmul hm (by omega)
 have HMU:=Lib.hid hmul
 clear hm hmul
 go_enter Tryz.func101,Tryz.ntmps101
 go_upto_region 1 with fail
 have fsz:(w.alloc (.cells #[.int .i64 0,.int .i64 0,.slice none 0 0] 24)).heap.size=w.heap.size+1:=by simp only[World.size_alloc]
 have fB:Below w.heap.size w (w.alloc (.cells #[.int .i64 0,.int .i64 0,.slice none 0 0] 24)):=(Below.refl _ _).alloc (Nat.le_refl _) _
 have fq0:(w.alloc (.cells #[.int .i64 0,.int .i64 0,.slice none 0 0] 24)).heap[w.heap.size]?=some (.cells #[.int .i64 0,.int .i64 0,.slice none 0 0] 24 (0,0)):=by have h:=World.alloc_heap_new w (.cells #[.int .i64 0,.int .i64 0,.slice none 0 0] 24);exact h
 generalize (w.alloc (.cells #[.int .i64 0,.int .i64 0,.slice none 0 0] 24))=W0 at fsz fB fq0 ⊢
 have Q0:=Lib.hid fq0
 have hl:=q_lt fq0
 have hs0:w.heap.size+1=W0.heap.size:=fsz.symm
 clear fsz fq0
 go_wp2_with (refine wpList_make_full _ rfl _ _ 22 rfl W0.heap.size 3 i0 (.int .i64 0) 1 Tryz.underlying22 hi hz0 hz1 _ _ _ _ m rfl rfl (by first|exact HMU.out|exact hmul) (by first|exact HMU.out|exact hmul) (by rw[hz2];omega) (by unfold maxLen;omega) (Nat.le_refl _) ?_;intro W4 hown4 hgr4;have hb4:Below W0.heap.size W0 W4:=(Below.refl W0.heap.size W0).grown hgr4 (Nat.le_refl _) (fun k e=>by cases e);have q4:=keepq hb4 Q0.out;obtain ⟨x0,x1,x2,xl⟩:=c3_of q4;obtain ⟨xf0,xf1,xf2⟩:=f3_of q4)
 rw[made_zeroR m] at hown4
 have OI4:OI W4 W0.heap.size W0.heap.size m m (List.replicate m 0):=⟨by simp,hown4⟩
 have o5:=((OI4.other (b:=w.heap.size) (i:=0) (by omega) (.int .i64 (n:Int))).other (b:=w.heap.size) (i:=1) (by omega) (.int .i64 (n:Int))).other (b:=w.heap.size) (i:=2) (by omega) (.slice (some ⟨W0.heap.size,0,none⟩) m m)
 have g3:=st3_q (x0 := .int .i64 (n:Int)) (x1 := .int .i64 (n:Int)) (x2 := .slice (some ⟨W0.heap.size,0,none⟩) m m) q4
 have hb3:=st3_below (x0 := .int .i64 (n:Int)) (x1 := .int .i64 (n:Int)) (x2 := .slice (some ⟨W0.heap.size,0,none⟩) m m) (b:=w.heap.size) (keep_trans fB hb4) (Nat.le_refl _)
 obtain ⟨z0,z1,z2,zl⟩:=c3_of g3
 refine bodyPost_ret (v := .agg #[.int .i64 (n:Int),.int .i64 (n:Int),.slice (some ⟨W0.heap.size,0,none⟩) m m]) ?_ rfl ⟨_,rfl,o5.base (by omega),hb3⟩
 simp[results,Tryz.f101,go_sem,z0,z1,z2]
structure RqI (w:World) (b b9 g m:Nat) (n:Int) (xs:List Int) (W:World):Prop where
 q0:W.heap[b]?=some (.cells #[.int .i64 0,.int .i64 0,.slice none 0 0] 24 (0,0))
 q9:W.heap[b9]?=some (.cells #[.int .i64 n,.int .i64 n,.slice (some ⟨g,0,none⟩) m m] 24 (0,0))
 o:OI W (b+1) g m m xs
 bl:Below w.heap.size w W
 ne:w.heap.size≤b∧b<g∧g<b9
theorem RqI.set {w:World} {b b9 g m:Nat} {n:Int} {xs:List Int} {W:World} (h:RqI w b b9 g m n xs W) (k:Nat) (x:Int):RqI w b b9 g m n (xs.set k x) (W.setCell ⟨g,k,none⟩ (.int .i64 x)) where
 q0:=q_other h.q0 (by have:=h.ne;omega) _
 q9:=q_other h.q9 (by have:=h.ne;omega) _
 o:=h.o.set k x
 bl:=h.bl.setCell (p:=⟨g,k,none⟩) (by have:=h.ne;show w.heap.size≤g;omega) _
 ne:=h.ne
theorem RqI.keep {w:World} {b b9 g m:Nat} {n:Int} {xs:List Int} {W W':World} (h:RqI w b b9 g m n xs W) (hb:Below W.heap.size W W'):RqI w b b9 g m n xs W' where
 q0:=keepq hb h.q0
 q9:=keepq hb h.q9
 o:=h.o.keep hb
 bl:=keep_trans h.bl hb
 ne:=h.ne
theorem RqI.drew {w:World} {b b9 g m:Nat} {n:Int} {xs:List Int} {W:World} (h:RqI w b b9 g m n xs W):RqI w b b9 g m n xs W.drew:=h.keep (Below.refl _ _).drew
theorem RqI.fin {w:World} {b b9 g m:Nat} {n:Int} {xs:List Int} {W:World} (h:RqI w b b9 g m n xs W) :
  (((W.setCell ⟨b,0,none⟩ (.int .i64 n)).setCell ⟨b,1,none⟩ (.int .i64 n)).setCell ⟨b,2,none⟩ (.slice (some ⟨g,0,none⟩) m m)).heap[b]?=some (.cells #[.int .i64 n,.int .i64 n,.slice (some ⟨g,0,none⟩) m m] 24 (0,0)) ∧
  OI (((W.setCell ⟨b,0,none⟩ (.int .i64 n)).setCell ⟨b,1,none⟩ (.int .i64 n)).setCell ⟨b,2,none⟩ (.slice (some ⟨g,0,none⟩) m m)) w.heap.size g m m xs ∧
  Below w.heap.size w (((W.setCell ⟨b,0,none⟩ (.int .i64 n)).setCell ⟨b,1,none⟩ (.int .i64 n)).setCell ⟨b,2,none⟩ (.slice (some ⟨g,0,none⟩) m m)) :=
 ⟨st3_q h.q0,(((h.o.other (by have:=h.ne;omega) _).other (by have:=h.ne;omega) _).other (by have:=h.ne;omega) _).base (by have:=h.ne;omega),st3_below h.bl h.ne.1⟩
def GridR (w:World) (n:Int) (m:Nat) (xs:List Int) (e:Ending) (w':World):Prop :=
 ∃g,e = .returned (.agg #[.int .i64 n,.int .i64 n,.slice (some ⟨g,0,none⟩) m m])∧OI w' w.heap.size g m m xs∧Below w.heap.size w w'
end
section
open Go Go.RowKit
attribute [local go_sem] over_cell
attribute [local go_sem] Oper.semAt_some
theorem lin_mod (a b:Int) (N i j:Nat):(a % (N:Int)*(i:Int)+b % (N:Int)*(j:Int)) % (N:Int)=linS N a b i j:=by
 unfold linS
 rw[Int.add_emod,Int.mul_emod,Int.emod_emod,← Int.mul_emod,Int.mul_emod (b % (N:Int)),Int.emod_emod,← Int.mul_emod,← Int.add_emod]
theorem rlin_c (N:Nat) (a b:Int) (w:World) (h1:1≤N) (h2:N≤16):Calls Tryz.prog 60 #[.int .i64 (N:Int),.int .i64 a,.int .i64 b] w (GridR w (N:Int) (N*N) (madeTo N (linS N a b) (N*N))):=by
 have HS:=Lib.hid (fun W=>rsq_c N (N*N) rfl (by omega) W)
 have hm:N*N≤16*16:=Nat.mul_le_mul h2 h2
 have HMA:=Lib.hid (fun W=>mod_c a (N:Int) W (by omega) (by omega))
 have HMB:=Lib.hid (fun W=>mod_c b (N:Int) W (by omega) (by omega))
 have ha1:=Int.emod_nonneg a (show (N:Int)≠0 by omega)
 have ha2:=Int.emod_lt_of_pos a (show (0:Int)<(N:Int) by omega)
 have hb1:=Int.emod_nonneg b (show (N:Int)≠0 by omega)
 have hb2:=Int.emod_lt_of_pos b (show (0:Int)<(N:Int) by omega)
 have HL:=Lib.hid (lin_mod a b N)
 have hne:(N:Int)≠0:=by omega
 generalize a % (N:Int)=p at HMA ha1 ha2 HL
 generalize b % (N:Int)=q at HMB hb1 hb2 HL
 generalize linS N a b=s at HL ⊢
 go_enter Tryz.func60,Tryz.ntmps60
 go_upto_region 1 with fail
 have fsz:(w.alloc (.cells #[.int .i64 0,.int .i64 0,.slice none 0 0] 24)).heap.size=w.heap.size+1:=by simp only[World.size_alloc]
 have fB:Below w.heap.size w (w.alloc (.cells #[.int .i64 0,.int .i64 0,.slice none 0 0] 24)):=(Below.refl _ _).alloc (Nat.le_refl _) _
 have fq0:(w.alloc (.cells #[.int .i64 0,.int .i64 0,.slice none 0 0] 24)).heap[w.heap.size]?=some (.cells #[.int .i64 0,.int .i64 0,.slice none 0 0] 24 (0,0)):=by have h:=World.alloc_heap_new w (.cells #[.int .i64 0,.int .i64 0,.slice none 0 0] 24);exact h
 generalize (w.alloc (.cells #[.int .i64 0,.int .i64 0,.slice none 0 0] 24))=W0 at fsz fB fq0 ⊢
 have Q0:=Lib.hid fq0
 have FB:=Lib.hid fB
 have hs0:w.heap.size+1=W0.heap.size:=fsz.symm
 clear fsz fq0 fB
 go_upto_region 2 with (first|(go_at_call 101;refine (HS.out _).mono ?_;rintro _ w2 ⟨g,rfl,ho2,hb2⟩)|fail)
 have hg:=ho2.blk
 have ksz:(w2.alloc (.cells #[.int .i64 (N:Int),.int .i64 (N:Int),.slice (some ⟨g,0,none⟩) (N*N) (N*N)] 24)).heap.size=w2.heap.size+1:=by simp only[World.size_alloc]
 have kB:Below w2.heap.size w2 (w2.alloc (.cells #[.int .i64 (N:Int),.int .i64 (N:Int),.slice (some ⟨g,0,none⟩) (N*N) (N*N)] 24)):=(Below.refl _ _).alloc (Nat.le_refl _) _
 have kq0:(w2.alloc (.cells #[.int .i64 (N:Int),.int .i64 (N:Int),.slice (some ⟨g,0,none⟩) (N*N) (N*N)] 24)).heap[w2.heap.size]?=some (.cells #[.int .i64 (N:Int),.int .i64 (N:Int),.slice (some ⟨g,0,none⟩) (N*N) (N*N)] 24 (0,0)):=by have h:=World.alloc_heap_new w2 (.cells #[.int .i64 (N:Int),.int .i64 (N:Int),.slice (some ⟨g,0,none⟩) (N*N) (N*N)] 24);exact h
 generalize (w2.alloc (.cells #[.int .i64 (N:Int),.int .i64 (N:Int),.slice (some ⟨g,0,none⟩) (N*N) (N*N)] 24))=W3 at ksz kB kq0 ⊢
 have HR:Hid (RqI w w.heap.size w2.heap.size g (N*N) (N:Int) (fillTo N s (N*N) (0*N)) W3):=⟨keepq kB (keepq hb2 Q0.out),kq0,by rw[Nat.zero_mul,fillTo_zero];exact (ho2.keep kB).base (by omega),keep_trans FB.out (keep_trans hb2 kB),by omega⟩
 clear ksz kq0 kB hb2 ho2 hg
 generalize w2.heap.size=b9 at HR ⊢
 go_wp2_with fail
 go_loopw [8,9] (fun s8 _ wr=>∃i:Nat,i≤N∧s8 = .int .i64 (i:Int)∧Hid (RqI w w.heap.size b9 g (N*N) (N:Int) (fillTo N s (N*N) (i*N)) wr)) (fun s8 _ _=>N - (intOf s8).toNat)
 case atStart=>exact ⟨0,by omega,rfl,HR⟩
 case round =>
  obtain ⟨i,hi,rfl,hR⟩:=hrel
  by_cases hlt:i<N
  ·have hii:(i:Int)<(N:Int):=by omega
   go_wp2_with fail
   go_loopw [9] (fun s9 wr=>∃j:Nat,j≤N∧s9 = .int .i64 (j:Int)∧Hid (RqI w w.heap.size b9 g (N*N) (N:Int) (fillTo N s (N*N) (i*N+j)) wr)) (fun s9 _=>N - (intOf s9).toNat)
   case atStart=>exact ⟨0,by omega,rfl,hR⟩
   case round =>
    obtain ⟨j,hj,rfl,hR2⟩:=hrel
    by_cases hlt2:j<N
    ·have hji:(j:Int)<(N:Int):=by omega
     have hkk:i*N+j<N*N:=gcell_lt hlt hlt2
     obtain ⟨u0,u1,u2⟩:=hR2.out.o.at hkk
     obtain ⟨x0,x1,x2,xl⟩:=c3_of hR2.out.q9
     obtain ⟨e,he⟩:∃e,e=i*N+j:=⟨_,rfl⟩
     obtain ⟨d,hd⟩:∃d,d=i*N:=⟨_,rfl⟩
     have hd1:(i:Int)*(N:Int)=(d:Int):=by rw[hd,Int.natCast_mul]
     have hd2:(d:Int)+(j:Int)=(e:Int):=by rw[he,hd,Int.natCast_add]
     have hd3:d≤256:=by omega
     have HLS:=HL.out i j
     have hp1:0≤p*(i:Int)∧p*(i:Int)≤16*16:=⟨Int.mul_nonneg ha1 (by omega),Int.le_trans (Int.mul_le_mul_of_nonneg_right (show p≤16 by omega) (by omega)) (Int.mul_le_mul_of_nonneg_left (show (i:Int)≤16 by omega) (by omega))⟩
     have hq1:0≤q*(j:Int)∧q*(j:Int)≤16*16:=⟨Int.mul_nonneg hb1 (by omega),Int.le_trans (Int.mul_le_mul_of_nonneg_right (show q≤16 by omega) (by omega)) (Int.mul_le_mul_of_nonneg_left (show (j:Int)≤16 by omega) (by omega))⟩
     obtain ⟨pv,hpv⟩:∃pv,p*(i:Int)=pv:=⟨_,rfl⟩
     obtain ⟨qv,hqv⟩:∃qv,q*(j:Int)=qv:=⟨_,rfl⟩
     rw[hpv,hqv] at HLS
     rw[hpv] at hp1
     rw[hqv] at hq1
     have k1:=Lib.hid (hR2.out.set e ((pv+qv) % (N:Int)))
     rw[HLS,he,fillTo_set (s:=s) hlt2 hkk,← he,← HLS] at k1
     rw[← he] at u0 u1 hkk
     have HK1:Hid (RqI w w.heap.size b9 g (N*N) (N:Int) (fillTo N s (N*N) (i*N+j+1)) (wr.setCell ⟨g,e,none⟩ (.int .i64 ((pv+qv) % (N:Int))))):=by unfold Hid;rw[show i*N+j+1=e+1 by omega];exact k1
     clear he hd k1 HLS
     generalize (fillTo N s (N*N) (i*N+j))[e]?.getD 0=ov at u0
     go_wp2_with fail
     refine wp_region_S (fun w'=>∃u,w'=over (wr) u) [21] [(0,0),(0,1),(0,2),(0,3),(0,4),(0,5),(0,6),(0,7),(0,8),(0,10),(0,12),(0,13),(0,15),(0,18),(1,9),(0,11),(1,14),(0,16),(0,17),(0,19),(0,20),(2,21)] (by kernel_rfl) (by kernel_rfl) (by exact ⟨_,below_over (by repeat (first|assumption|exact Below.refl _ _|refine keep_drew ?_|refine keep_alloc ?_ _|refine keep_trans ?_ (by assumption)))⟩) ?_
     dsimp only[pickOps,nthOp]
     repeat (first|(refine wpS_skip rfl (fun K hK=>?_);go_big_quiet_op;refine hK _ ?_;clear hK K)|(refine wpS_quiet rfl rfl (fun K hK=>?_);go_big_quiet_op;refine hK _ ?_;clear hK K)|(refine wpS_loud ?_;go_wp2_with (first|(go_at_call 62;(with_reducible refine (HMA.out _).mono ?_);rintro _ w5 ⟨rfl,rfl⟩)|(go_at_call 62;(with_reducible refine (HMB.out _).mono ?_);rintro _ w6 ⟨rfl,rfl⟩)|fail);refine ⟨?_,?_⟩;focus (exact ⟨_,below_over (by repeat (first|assumption|exact Below.refl _ _|refine keep_drew ?_|refine keep_alloc ?_ _|refine keep_trans ?_ (by assumption)))⟩)))
     refine wpS_late _ _ _ rfl ?_
     dsimp only[List.map]
     go_wp2_with (first|(go_at_call 62;(with_reducible refine (HMA.out _).mono ?_);rintro _ w5 ⟨rfl,rfl⟩)|(go_at_call 62;(with_reducible refine (HMB.out _).mono ?_);rintro _ w6 ⟨rfl,rfl⟩)|fail)
     refine NoPanic.normal ?_
     go_wp2_with fail
     go_roundw
     case rel=>exact ⟨j+1,by omega,by go_num,HK1.out.drew⟩
     case measure=>simp[intOf];omega
    ·have e:j=N:=by omega
     have HK2:Hid (RqI w w.heap.size b9 g (N*N) (N:Int) (fillTo N s (N*N) ((i+1)*N)) wr):=by have h:=hR2.out;rw[e,show i*N+N=(i+1)*N by rw[Nat.succ_mul]] at h;exact h
     have hno:¬(j:Int)<(N:Int):=by omega
     clear e
     go_wp2_with fail
     go_roundw
     case rel=>exact ⟨i+1,by omega,by go_num,HK2⟩
     case measure=>simp[intOf];omega
  ·have e:i=N:=by omega
   have hno:¬(i:Int)<(N:Int):=by omega
   have hR9:=hR.out
   rw[e,fillTo_end] at hR9
   obtain ⟨x0,x1,x2,xl⟩:=c3_of hR9.q9
   obtain ⟨y0,y1,y2,yl⟩:=c3_of hR9.q0
   obtain ⟨yf0,yf1,yf2⟩:=f3_of hR9.q0
   obtain ⟨t0,t1,t2⟩:=hR9.fin
   obtain ⟨z0,z1,z2,zl⟩:=c3_of t0
   have T1:=Lib.hid t1
   have T2:=Lib.hid t2
   clear e hR9 hR t0 t1 t2
   go_wp2_with fail
   refine bodyPost_ret (v := .agg #[.int .i64 (N:Int),.int .i64 (N:Int),.slice (some ⟨g,0,none⟩) (N*N) (N*N)]) ?_ rfl ⟨g,rfl,T1.out,T2.out⟩
   simp[results,Tryz.f60,go_sem,z0,z1,z2]
end
section
open Go Go.RowKit
attribute [local go_sem] over_cell
attribute [local go_sem] Oper.semAt_some
def sameG (r C:Int) (cs:List Int) (r2 C2:Int) (ds:List Int):Bool:=(r==r2)&&(C==C2)&&sameB cs ds
theorem rsame_c (r C:Int) (a:Option Addr) (n c:Nat) (cs:List Int) (r2 C2:Int) (a2:Option Addr) (n2 c2:Nat) (ds:List Int) (w:World) (h:IC w a n cs) (h2:IC w a2 n2 ds) :
  Calls Tryz.prog 43 #[.agg #[.int .i64 r,.int .i64 C,.slice a n c],.agg #[.int .i64 r2,.int .i64 C2,.slice a2 n2 c2]] w fun e w'=>e = .returned (.bool (sameG r C cs r2 C2 ds))∧Below w.heap.size w w':=by
 have HS:=Lib.hid (fun W (hb:Below w.heap.size w W)=>same_c a a2 n n2 c c2 cs ds W (h.mono hb) (h2.mono hb))
 have HD:Hid (sameG r C cs r2 C2 ds=((r==r2)&&(C==C2)&&sameB cs ds)):=rfl
 generalize sameB cs ds=b3 at HS HD
 generalize sameG r C cs r2 C2 ds=R at HD ⊢
 clear h h2
 obtain ⟨b1,e1⟩:∃b1,(r==r2)=b1:=⟨_,rfl⟩
 obtain ⟨b2,e2⟩:∃b2,(C==C2)=b2:=⟨_,rfl⟩
 rw[e1,e2] at HD
 cases b1 with
 | false =>
  go_enter Tryz.func43,Tryz.ntmps43
  go_upto_region 1 with fail
  have fsz:((w.alloc (.cells #[.int .i64 r,.int .i64 C,.slice a n c] 24)).alloc (.cells #[.int .i64 r2,.int .i64 C2,.slice a2 n2 c2] 24)).heap.size=w.heap.size+2:=by simp only[World.size_alloc] <;> omega
  have fB:Below w.heap.size w ((w.alloc (.cells #[.int .i64 r,.int .i64 C,.slice a n c] 24)).alloc (.cells #[.int .i64 r2,.int .i64 C2,.slice a2 n2 c2] 24)):=((Below.refl _ _).alloc (Nat.le_refl _) _).alloc (by simp only[World.size_alloc];omega) _
  have fq0:((w.alloc (.cells #[.int .i64 r,.int .i64 C,.slice a n c] 24)).alloc (.cells #[.int .i64 r2,.int .i64 C2,.slice a2 n2 c2] 24)).heap[w.heap.size]?=some (.cells #[.int .i64 r,.int .i64 C,.slice a n c] 24 (0,0)):=by have h:=World.alloc_heap_new w (.cells #[.int .i64 r,.int .i64 C,.slice a n c] 24);exact (Below.heap_alloc _ _ _ (by simp only[World.size_alloc];omega)).trans (h)
  have fq1:((w.alloc (.cells #[.int .i64 r,.int .i64 C,.slice a n c] 24)).alloc (.cells #[.int .i64 r2,.int .i64 C2,.slice a2 n2 c2] 24)).heap[w.heap.size+1]?=some (.cells #[.int .i64 r2,.int .i64 C2,.slice a2 n2 c2] 24 (0,0)):=by have h:=World.alloc_heap_new (w.alloc (.cells #[.int .i64 r,.int .i64 C,.slice a n c] 24)) (.cells #[.int .i64 r2,.int .i64 C2,.slice a2 n2 c2] 24);simp only[World.size_alloc] at h;exact h
  generalize ((w.alloc (.cells #[.int .i64 r,.int .i64 C,.slice a n c] 24)).alloc (.cells #[.int .i64 r2,.int .i64 C2,.slice a2 n2 c2] 24))=W0 at fsz fB fq0 fq1 ⊢
  obtain ⟨x0,x1,x2,xl⟩:=c3_of fq0
  obtain ⟨y0,y1,y2,yl⟩:=c3_of fq1
  clear fq0 fq1 fsz
  go_wp2_with fail
  refine bodyPost_ret (v := .bool false) ?_ rfl ⟨by rw[HD.out];rfl,fB⟩
  simp[results,Tryz.f43,go_sem]
 | true =>
  cases b2 with
  | false =>
   go_enter Tryz.func43,Tryz.ntmps43
   go_upto_region 1 with fail
   have fsz:((w.alloc (.cells #[.int .i64 r,.int .i64 C,.slice a n c] 24)).alloc (.cells #[.int .i64 r2,.int .i64 C2,.slice a2 n2 c2] 24)).heap.size=w.heap.size+2:=by simp only[World.size_alloc] <;> omega
   have fB:Below w.heap.size w ((w.alloc (.cells #[.int .i64 r,.int .i64 C,.slice a n c] 24)).alloc (.cells #[.int .i64 r2,.int .i64 C2,.slice a2 n2 c2] 24)):=((Below.refl _ _).alloc (Nat.le_refl _) _).alloc (by simp only[World.size_alloc];omega) _
   have fq0:((w.alloc (.cells #[.int .i64 r,.int .i64 C,.slice a n c] 24)).alloc (.cells #[.int .i64 r2,.int .i64 C2,.slice a2 n2 c2] 24)).heap[w.heap.size]?=some (.cells #[.int .i64 r,.int .i64 C,.slice a n c] 24 (0,0)):=by have h:=World.alloc_heap_new w (.cells #[.int .i64 r,.int .i64 C,.slice a n c] 24);exact (Below.heap_alloc _ _ _ (by simp only[World.size_alloc];omega)).trans (h)
   have fq1:((w.alloc (.cells #[.int .i64 r,.int .i64 C,.slice a n c] 24)).alloc (.cells #[.int .i64 r2,.int .i64 C2,.slice a2 n2 c2] 24)).heap[w.heap.size+1]?=some (.cells #[.int .i64 r2,.int .i64 C2,.slice a2 n2 c2] 24 (0,0)):=by have h:=World.alloc_heap_new (w.alloc (.cells #[.int .i64 r,.int .i64 C,.slice a n c] 24)) (.cells #[.int .i64 r2,.int .i64 C2,.slice a2 n2 c2] 24);simp only[World.size_alloc] at h;exact h
   generalize ((w.alloc (.cells #[.int .i64 r,.int .i64 C,.slice a n c] 24)).alloc (.cells #[.int .i64 r2,.int .i64 C2,.slice a2 n2 c2] 24))=W0 at fsz fB fq0 fq1 ⊢
   obtain ⟨x0,x1,x2,xl⟩:=c3_of fq0
   obtain ⟨y0,y1,y2,yl⟩:=c3_of fq1
   clear fq0 fq1 fsz
   go_wp2_with fail
   refine bodyPost_ret (v := .bool false) ?_ rfl ⟨by rw[HD.out];rfl,fB⟩
   simp[results,Tryz.f43,go_sem]
  | true =>
   go_enter Tryz.func43,Tryz.ntmps43
   go_upto_region 1 with fail
   have fsz:((w.alloc (.cells #[.int .i64 r,.int .i64 C,.slice a n c] 24)).alloc (.cells #[.int .i64 r2,.int .i64 C2,.slice a2 n2 c2] 24)).heap.size=w.heap.size+2:=by simp only[World.size_alloc] <;> omega
   have fB:Below w.heap.size w ((w.alloc (.cells #[.int .i64 r,.int .i64 C,.slice a n c] 24)).alloc (.cells #[.int .i64 r2,.int .i64 C2,.slice a2 n2 c2] 24)):=((Below.refl _ _).alloc (Nat.le_refl _) _).alloc (by simp only[World.size_alloc];omega) _
   have fq0:((w.alloc (.cells #[.int .i64 r,.int .i64 C,.slice a n c] 24)).alloc (.cells #[.int .i64 r2,.int .i64 C2,.slice a2 n2 c2] 24)).heap[w.heap.size]?=some (.cells #[.int .i64 r,.int .i64 C,.slice a n c] 24 (0,0)):=by have h:=World.alloc_heap_new w (.cells #[.int .i64 r,.int .i64 C,.slice a n c] 24);exact (Below.heap_alloc _ _ _ (by simp only[World.size_alloc];omega)).trans (h)
   have fq1:((w.alloc (.cells #[.int .i64 r,.int .i64 C,.slice a n c] 24)).alloc (.cells #[.int .i64 r2,.int .i64 C2,.slice a2 n2 c2] 24)).heap[w.heap.size+1]?=some (.cells #[.int .i64 r2,.int .i64 C2,.slice a2 n2 c2] 24 (0,0)):=by have h:=World.alloc_heap_new (w.alloc (.cells #[.int .i64 r,.int .i64 C,.slice a n c] 24)) (.cells #[.int .i64 r2,.int .i64 C2,.slice a2 n2 c2] 24);simp only[World.size_alloc] at h;exact h
   generalize ((w.alloc (.cells #[.int .i64 r,.int .i64 C,.slice a n c] 24)).alloc (.cells #[.int .i64 r2,.int .i64 C2,.slice a2 n2 c2] 24))=W0 at fsz fB fq0 fq1 ⊢
   obtain ⟨x0,x1,x2,xl⟩:=c3_of fq0
   obtain ⟨y0,y1,y2,yl⟩:=c3_of fq1
   clear fq0 fq1 fsz
   go_wp2_with (first|(go_at_call 38;refine (HS.out _ (by (repeat (first|assumption|exact Below.refl _ _|refine keep_drew ?_|refine keep_alloc ?_ _|refine keep_trans ?_ (by assumption))))).mono ?_;rintro _ w2 ⟨rfl,hb2⟩)|fail)
   refine bodyPost_ret (v := .bool b3) ?_ rfl ⟨by rw[HD.out];rfl,keep_trans fB hb2⟩
   simp[results,Tryz.f43,go_sem]
theorem lgrid_c (n:Int) (a:Option Addr) (m c:Nat) (w:World):Calls Tryz.prog 91 #[.int .i64 n,.slice a m c] w fun e w'=>e = .returned (.agg #[.int .i64 n,.int .i64 n,.slice a m c])∧Below w.heap.size w w':=by
 go_enter Tryz.func91,Tryz.ntmps91
 go_upto_region 1 with fail
 have fsz:(w.alloc (.cells #[.int .i64 0,.int .i64 0,.slice none 0 0] 24)).heap.size=w.heap.size+1:=by simp only[World.size_alloc]
 have fB:Below w.heap.size w (w.alloc (.cells #[.int .i64 0,.int .i64 0,.slice none 0 0] 24)):=(Below.refl _ _).alloc (Nat.le_refl _) _
 have fq0:(w.alloc (.cells #[.int .i64 0,.int .i64 0,.slice none 0 0] 24)).heap[w.heap.size]?=some (.cells #[.int .i64 0,.int .i64 0,.slice none 0 0] 24 (0,0)):=by have h:=World.alloc_heap_new w (.cells #[.int .i64 0,.int .i64 0,.slice none 0 0] 24);exact h
 generalize (w.alloc (.cells #[.int .i64 0,.int .i64 0,.slice none 0 0] 24))=W0 at fsz fB fq0 ⊢
 obtain ⟨x0,x1,x2,xl⟩:=c3_of fq0
 obtain ⟨xf0,xf1,xf2⟩:=f3_of fq0
 have g3:=st3_q (x0 := .int .i64 n) (x1 := .int .i64 n) (x2 := .slice a m c) fq0
 have hb3:=st3_below (x0 := .int .i64 n) (x1 := .int .i64 n) (x2 := .slice a m c) (b:=w.heap.size) fB (by omega)
 clear fq0 fsz
 go_wp2_with fail
 obtain ⟨z0,z1,z2,zl⟩:=c3_of g3
 refine bodyPost_ret (v := .agg #[.int .i64 n,.int .i64 n,.slice a m c]) ?_ rfl ⟨rfl,hb3⟩
 simp[results,Tryz.f91,go_sem,z0,z1,z2]
end
section
open Go Go.RowKit
def X3:List Int:=[0,1,2,1,2,0,2,0,1]
def L4:List Int:=madeTo 4 (linS 4 1 1) (4*4)
def L2:List Int:=madeTo 2 (linS 2 1 1) (2*2)
def S3:List (List Int):=[[0,1],[0],[1,2]]
def T3:List (List Int):=[[0,1],[0,1],[0,1]]
theorem aw_cyc:cycL 3=X3∧ordE 3=0:=by decide +kernel
theorem aw_tr:trL 3 3 X3=[[0,1,2],[1,2,0],[2,0,1]]∧trE 3 3 X3=0:=by decide +kernel
theorem aw_mt:mtL 3 3 X3=[0,1,2,2,0,1,1,2,0]∧mtEr 3 3 X3=0:=by decide +kernel
theorem aw_l4:sqE 0 4 4 L4=0∧refV 4 L4=4∧refEr 4 L4=0:=by decide +kernel
theorem aw_m4:mtL 4 4 L4=[]∧mtEr 4 4 L4=7:=by decide +kernel
theorem aw_f4:fldB 4=true∧(fadL 4).length=16∧(ftiL 4).length=16∧((fadL 4).take 12).drop 8=[2,3,0,1]∧((ftiL 4).take 12).drop 8=[0,2,3,1]:=by decide +kernel
theorem aw_fam:(famL 4).length=3∧((famL 4)[1]?.getD []).length=16∧(((famL 4)[1]?.getD []).take 8).drop 4=[2,3,0,1]:=by decide +kernel
theorem aw_meet:twoE 2 2 L2 2 2 L2=0∧meetR L2 L2=some (1,2):=by decide +kernel
theorem aw_co:coL 2 2 [0,-1,-1,-1] 5=[[0,1,1,0]]∧coEr 2 2 [0,-1,-1,-1] 5=0:=by decide +kernel
theorem aw_rp:rpL S3=[1,0,2]∧rpE S3=0:=by decide +kernel
theorem srt4_012 {f:List Int} (hl:f.length=3) (hn:f.Nodup) (hm:∀x,x∈f→0≤x∧x≤2):srt4 f=[0,1,2]:=by
 have h1:=srt4_asc hn
 have h2:=(srt4_len f).trans hl
 have h3:∀x,x∈srt4 f→0≤x∧x≤2:=fun x hx=>hm x (srt4_mem.1 hx)
 match hs:srt4 f,h2 with
 | [a,b,c],_ =>
  rw[hs] at h1 h3
  have e1:=h1 0 1 (by omega) (by simp)
  have e2:=h1 1 2 (by omega) (by simp)
  have e3:=h3 a (by simp)
  have e4:=h3 c (by simp)
  simp at e1 e2
  have:a=0∧b=1∧c=2:=by omega
  rw[this.1,this.2.1,this.2.2]
def haA (sets:List (List Int)):List Nat:=match haO sets with | .inl _=>[] | .inr A=>A
theorem aw_hx:haA T3=[2,1,0]∧haE T3=0∧stE T3=0∧chE T3 [0,1,2]=0:=by decide +kernel
theorem aw_ha:haL T3=[0,1,2]∧haE T3=0∧chE T3 [0,1,2]=0:=by
 obtain ⟨h1,h2,h3,h4⟩:=aw_hx
 refine ⟨?_,h2,h4⟩
 unfold haA at h1
 unfold haL
 rw[if_pos h3]
 cases hO:haO T3 with
 | inl _=>rw[hO] at h1;cases h1
 | inr A =>
  rw[hO] at h1
  dsimp only at h1 ⊢
  rw[h1]
  exact srt4_012 rfl (by decide) (by decide)
theorem aw_ex:exL 1 3 [0,1,2]=[0,1,2,1,2,0]∧exE 1 3 [0,1,2]=0:=by decide +kernel
theorem aw_re:redL 2 2 [1,0,0,1]=[0,1,1,0]∧sqE 0 2 2 [1,0,0,1]=0:=by decide +kernel
theorem aw_in:inL 2 2 [0,1,1,0]=1∧inE 2 2 [0,1,1,0]=0:=by decide +kernel
theorem aw_ki:kindTo 2 [0,1,1,0] 7=[0,1,3,6]∧sqE 0 2 2 [0,1,1,0]=0:=by decide +kernel
end
end Go.Proofs.YtmfpdakaeagdpaaGreat
