/- Texts J231 to J235 of this proof, in one file. -/
import Derived.Test.YtpkghjoippcjeaaGreatDoorW55
import Derived.Test.YtpkghjoippcjeaaGreatDoorW66
import Derived.Test.YtpkghjoippcjeaaGreatDoorW67
import Derived.Test.YtpkghjoippcjeaaGreatDoorW69
import Derived.Test.YtpkghjoippcjeaaGreatDoorW70
namespace Go.Proofs.YtpkghjoippcjeaaGreatDoor
set_option maxRecDepth 100000
set_option maxHeartbeats 16000000
section
open Go Go.RowKit Go.Maps
attribute [local go_sem] over_cell
attribute [local go_sem] Oper.semAt_some
def nilR (_:Nat):Value × List Int:=(.slice none 0 0,[])
theorem nilR_map (n:Nat):List.replicate n (Value.slice none 0 0)=(List.range n).map fun i=>(nilR i).1:=by
 apply List.ext_getElem?
 intro i
 by_cases h:i<n
 ·rw[List.getElem?_replicate,if_pos h,List.getElem?_map,List.getElem?_range h];rfl
 ·rw[List.getElem?_eq_none (by simp;omega),List.getElem?_eq_none (by simp;omega)]
theorem TE.start {W:World} {L bt be n:Nat} (h1:W.ownsRow L 22 1 (.slice (some ⟨bt,0,none⟩) n n) n (List.replicate n (.slice none 0 0))) (h2:W.ownsRow L 22 1 (.slice (some ⟨be,0,none⟩) n n) n (List.replicate n (.slice none 0 0))) (hne:bt≠be):TE W L bt be n nilR :=
 ⟨by rw[← nilR_map];exact h1,(by have e:=nilR_map n;rw[e] at h2;exact h2),fun _ _=>World.ownsRow_nil _ _ _ _,fun _ _ _ e=>(by cases e),fun _ _ _ _ _ _ e=>(by cases e),hne⟩
theorem cell_two_new (w:World) (o:Obj) (v:Value) (t:TypeId):∀(j:Nat) (u:Value),[v][j]?=some u→((w.alloc o).alloc (.cells #[v] t)).cell? (({ block:=w.heap.size+1,off:=0 }:Addr).add j)=some u:=by
 have e:(w.alloc o).heap.size=w.heap.size+1:=by simp
 have:=cell_one_new (w.alloc o) v t
 rw[e] at this
 exact this
theorem infoKnown:(Tryz.prog.info? 115).map (fun i=>(i.zero,i.size,i.bytes))=some (some (.map none),1,8):=by kernel_rfl
theorem searchOf3_c (a:Option Addr) (ca:Nat) (w:World) (h:RC w a 6 semi3) :
  Calls Tryz.prog 56 #[.agg #[.int .i64 9,.slice a 6 ca],.slice none 0 0] w (SrO w):=by
 obtain ⟨i0,hi,hz0,hz1,hz2⟩:=info_parts infoRow
 have HRC:=Lib.hid h
 clear h
 go_enter Tryz.func56,Tryz.ntmps56
 go_upto_region 1 with fail
 have fsz:(w.alloc (.cells #[.int .i64 9,.slice a 6 ca] 44)).heap.size=w.heap.size+1:=by simp only[World.size_alloc]
 have fB:Below w.heap.size w (w.alloc (.cells #[.int .i64 9,.slice a 6 ca] 44)):=(Below.refl _ _).alloc (Nat.le_refl _) _
 have fq0:(w.alloc (.cells #[.int .i64 9,.slice a 6 ca] 44)).heap[w.heap.size]?=some (.cells #[.int .i64 9,.slice a 6 ca] 44 (0,0)):=by have h:=World.alloc_heap_new w (.cells #[.int .i64 9,.slice a 6 ca] 44);exact h
 generalize (w.alloc (.cells #[.int .i64 9,.slice a 6 ca] 44))=W0 at fsz fB fq0 ⊢
 have c0:W0.cell? ⟨w.heap.size,0,none⟩=some (.int .i64 9):=q_cell fq0 0
 have l0:=q_lt fq0
 have FB:=Lib.hid fB
 have Q0:=Lib.hid fq0
 clear fq0 fsz fB
 go_cut [5] from 11 to 19 (fun s5 wx=>∃bt be bs,s5 = .pointer (some ⟨bs,0,none⟩)∧Hid (TW W0 wx bt be bs (.slice none 0 0) nilR))
 case first J9 K9 hJ9 hK9 =>
  refine wp_region_fork (fun w'=>∃u,w'=over (W0) u) [7,8,9] [0,1,3,4,6] 2 5 [(2,7),(2,8),(2,9)] (by kernel_rfl) (by kernel_rfl) (by exact ⟨_,below_over (by repeat (first|assumption|exact Below.refl _ _|refine keep_drew ?_|refine keep_alloc ?_ _|refine keep_trans ?_ (by assumption)))⟩) ?_ ?_
  all_goals dsimp only[List.map,List.cons_append,List.nil_append,pickOps,nthOp]
  all_goals repeat (first|(refine wpS_skip rfl (fun K hK=>?_);go_big_quiet_op;refine hK _ ?_;clear hK K)|(refine wpS_quiet rfl rfl (fun K hK=>?_);go_big_quiet_op;refine hK _ ?_;clear hK K)|(refine wpS_loud ?_;go_wp2_with (first|(refine wpList_make_full W0.drew rfl _ _ 28 rfl W0.heap.size 22 i0 (.slice none 0 0) 1 Tryz.underlying28 hi hz0 hz1 _ _ _ _ 9 rfl rfl (by simp) (by simp) (by rw[hz2];omega) (by unfold maxLen;omega) (Nat.le_refl _) ?_;intro W4 hown4 hgr4;have hb4:Below W0.heap.size W0 W4:=(keep_drew (Below.refl W0.heap.size W0)).grown hgr4 (Nat.le_refl _) (fun k e=>by cases e))|(refine wpList_make_full W4 rfl _ _ 28 rfl W0.heap.size 22 i0 (.slice none 0 0) 1 Tryz.underlying28 hi hz0 hz1 _ _ _ _ 9 rfl rfl (by simp) (by simp) (by rw[hz2];omega) (by unfold maxLen;omega) hb4.size ?_;intro W6 hown6 hgr6;have hb6:Below W0.heap.size W0 W6:=hb4.grown hgr6 hb4.size (fun k e=>by cases e))|fail);refine ⟨?_,?_⟩;focus (exact ⟨_,below_over (by repeat (first|assumption|exact Below.refl _ _|refine keep_drew ?_|refine keep_alloc ?_ _|refine keep_trans ?_ (by assumption)))⟩)))
  all_goals refine wpS_late _ _ _ rfl ?_
  all_goals dsimp only[List.map]
  all_goals
   go_wp2_with fail
   refine NoPanic.normal ?_
   refine hK9 _ _ (Met.intro (hJ9 _ _ ?_))
   (repeat apply Exists.intro)
   refine ⟨?rel,rfl⟩
   case rel =>
    have z1:=hb4.size
    have z2:=hb6.size
    have z3:=hgr6.size
    rw[made_nilr 9] at hown4 hown6
    have hlt:W0.heap.size<W4.heap.size:=(hown4.lt _ rfl).2
    have hlt6:W4.heap.size<W6.heap.size:=(hown6.lt _ rfl).2
    have hb46:Below W4.heap.size W4 W6:=(Below.refl _ _).grown hgr6 (Nat.le_refl _) (fun k e=>by cases e)
    have k4:∀o,(W6.alloc o).ownsRow W0.heap.size 22 1 (.slice (some ⟨W0.heap.size,0,none⟩) 9 9) 9 (List.replicate 9 (.slice none 0 0)):=fun o=>owns_keep (owns_keep hown4 (fun k _ hl=>hb46.block k hl)) (fun k _ hl=>((Below.refl W6.heap.size W6).alloc (Nat.le_refl _) o).block k hl)
    have k6:∀o,(W6.alloc o).ownsRow W0.heap.size 22 1 (.slice (some ⟨W4.heap.size,0,none⟩) 9 9) 9 (List.replicate 9 (.slice none 0 0)):=fun o=>owns_keep hown6 (fun k _ hl=>((Below.refl W6.heap.size W6).alloc (Nat.le_refl _) o).block k hl)
    first
     | exact ⟨W0.heap.size,W4.heap.size,W6.heap.size,rfl,⟨TE.start (k4 _) (k6 _) (by omega),World.alloc_heap_new _ _,fun _ _ _ e=>(by cases e),⟨by omega,by omega⟩,z2,hb6.alloc z2 _⟩⟩
     | exact ⟨W4.heap.size,W0.heap.size,W6.heap.size,rfl,⟨TE.start (k6 _) (k4 _) (by omega),World.alloc_heap_new _ _,fun _ _ _ e=>(by cases e),⟨by omega,by omega⟩,z2,hb6.alloc z2 _⟩⟩
 case rest =>
  obtain ⟨bt,be,bs,rfl,hT⟩:=hcut
  have hB:=Lib.hid hT.out.bl
  have d1:=(hB.out.cell (p:=⟨w.heap.size,1,none⟩) l0).trans (q_cell Q0.out 1)
  have d0:=(hB.out.cell (p:=⟨w.heap.size,0,none⟩) l0).trans c0
  have dl:=Nat.lt_of_lt_of_le l0 hB.out.size
  have e1:wc.cell? ⟨w.heap.size,1,none⟩=some (.slice a 6 ca):=d1
  clear d1 c0
  go_wp2_with fail
  clear e1 d0 dl
  clear hB
  go_loopw [6,7,9,10,23] (fun _ _ _ _ s23 wr=>∃(k:Nat) (R:Nat→Value × List Int),k≤6∧s23 = .int .i64 (k:Int)∧Hid (TW W0 wr bt be bs (.slice none 0 0) R)∧Hid (∀i,i<18→(R i).2=stR k 0 i)) (fun _ _ _ _ s23 _=>6 - (intOf s23).toNat)
  case atStart=>exact ⟨0,nilR,by omega,rfl,hT,fun i hi=>(stR_zero i hi).symm⟩
  case round =>
   obtain ⟨k,R,hk,rfl,HT,HR⟩:=hrel
   clear hT
   by_cases hk6:k<6
   ·have hkk:(k:Int)<6:=by omega
    obtain ⟨b9,o9,al,nl,cl,ea,hbl9,hcl9,hic9,hcap9⟩:=(HRC.out).2 k hk6
    have hnl:nl=3:=hic9.1.1.symm.trans (semi_len k hk6)
    subst hnl
    have hwl:=(FB.out.size)
    have hbr:=HT.out.bl
    have hWB:Below w.heap.size w wr:=FB.out.trans (hbr.mono (by omega))
    have HIC:=Lib.hid hic9
    have c9:=((bcell hWB).1 b9 _ hbl9).trans hcl9
    have l9:=Nat.lt_of_lt_of_le hbl9 hWB.size
    subst ea
    clear hwl hbr hWB hcl9 hbl9 hic9
    go_wp2_with fail
    clear c9 l9
    go_loopw [9,30] (fun _ s30 wr=>∃(j:Nat) (R:Nat→Value × List Int),j≤3∧s30 = .int .i64 (j:Int)∧Hid (TW W0 wr bt be bs (.slice none 0 0) R)∧Hid (∀i,i<18→(R i).2=stR k j i)) (fun _ s30 _=>3 - (intOf s30).toNat)
    case atStart=>exact ⟨0,R,by omega,rfl,HT,HR⟩
    case round =>
     clear HT HR
     obtain ⟨j,R,hj,rfl,HT,HR⟩:=hrel
     by_cases hj3:j<3
     ·have hjj:(j:Int)<3:=by omega
      have hbr:=HT.out.bl
      have hWB:Below w.heap.size w wr:=FB.out.trans (hbr.mono (by have:=FB.out.size;omega))
      obtain ⟨b8,o8,ea,hl8,hc8⟩:=(HIC.out).2 j hj3
      subst ea
      have c8:=((bcell hWB).1 b8 _ hl8).trans hc8
      have l8:=Nat.lt_of_lt_of_le hl8 hWB.size
      have hrng:=semi_rng k hk6 j hj3
      have HSTEP:=Lib.hid (stR_step k hk6 j hj3)
      generalize (semi3[k]?.getD [])[j]?.getD 0=x at c8 hrng HSTEP
      obtain ⟨xn,rfl⟩:∃t:Nat,x=(t:Int):=⟨x.toNat,by omega⟩
      have hxn:xn<9:=by omega
      have hxi:(xn:Int)<9:=by omega
      clear hbr hWB hc8 hl8 hrng
      go_upto_region 8 with fail
      clear c8 l8
      have hi18:xn<18:=by omega
      obtain ⟨ar,cr,hv⟩:=owns_shape (HT.out.te.row (xn) hi18)
      have hown:=owns_base (HT.out.te.row (xn) hi18) (Nat.zero_le _)
      have HLEN:Hid ((R (xn)).2.length≤7):=by unfold Hid;rw[HR.out (xn) hi18];exact stR_len k hk6 _ (by omega) (xn) hi18
      have hrl:=HLEN.out
      have gq:wr.cell? ⟨bt,xn,none⟩=some (R (xn)).1∧wr.frozen? ⟨bt,xn,none⟩=false:=by have h1:=HT.out.cell (i:=xn) (by omega);rw[if_pos hxn,if_pos hxn] at h1;exact h1
      obtain ⟨gn',gf'⟩:=gq
      have HGN:=Lib.hid gn'
      have HGF:=Lib.hid gf'
      rw[hv] at hown gn'
      have g9':=q_cell HT.out.sb 0
      have hbl:=q_lt HT.out.sb
      have htl:bt<bs:=by have:=HT.out.lt;omega
      have hBt:bs+1≤wr.heap.size:=by omega
      have hcs:=cutW_size hBt
      have hcb:=cutW_below hBt
      have g9:=(cutW_cell hBt (o:=0) (by omega:bs<bs+1)).trans g9'
      have gn:=(cutW_cell hBt (o:=xn) (by omega:bt<bs+1)).trans gn'
      have hbS:bs<(cutW wr (bs+1)).heap.size:=by omega
      have haS:bt<(cutW wr (bs+1)).heap.size:=by omega
      generalize (cutW wr (bs+1))=S at hcs hcb g9 gn hbS haS
      have HCS:=Lib.hid hcs
      have HV:=Lib.hid hv
      clear hcs hv gn' gf' g9'
      obtain ⟨i1,hi,hz0,hz1,hz2⟩:=info_parts infoInt
      clear hi18
      refine wp_region_S (fun w'=>∃u,w'=over (S) u) [16] [(0,0),(0,1),(0,2),(0,3),(0,4),(0,5),(0,6),(0,7),(0,8),(0,9),(0,10),(0,11),(0,12),(1,13),(1,14),(0,15),(2,16)] (by kernel_rfl) (by kernel_rfl) (by exact ⟨_,below_over (by repeat (first|assumption|exact Below.refl _ _|refine keep_drew ?_|refine keep_alloc ?_ _|refine keep_trans ?_ (by assumption)))⟩) ?_
      dsimp only[pickOps,nthOp]
      repeat (first|(refine wpS_skip rfl (fun K hK=>?_);go_big_quiet_op;refine hK _ ?_;clear hK K)|(refine wpS_quiet rfl rfl (fun K hK=>?_);go_big_quiet_op;refine hK _ ?_;clear hK K)|(refine wpS_loud ?_;go_wp2_with ((at_builtin;refine wpList_append_own2 _ rfl _ _ 22 rfl 3 i1 (.int .i64 0) 1 8 Tryz.underlying22 hi hz0 hz1 hz2 rfl (by decide) _ _ _ rfl (owns_drew (hown.alloc _)) ⟨wr.heap.size,0,none⟩ 1 1 [.int .i64 (k:Int)] rfl rfl (cell_one_drew _ _ _) (by simp[Value.oneCell']) (by unfold maxLen;omega) (by omega) ?_;intro v' w9 hown' hgrow hnew;obtain ⟨av,cv,rfl⟩:=owns_shape hown';have hst9:Stays (fun k=>(R (xn)).1.ownBlock=some k) wr w9:=(Below.stays ((Below.refl _ wr).alloc (Nat.le_refl _) (.cells #[.int .i64 (k:Int)] 3)).drew _).trans (Stays.grown (S:=fun k=>(R (xn)).1.ownBlock=some k) hgrow (fun k e=>(by rw[HV.out];exact e))) (fun i e => .inl e);have hbS9:Below S.heap.size S w9:=hcb.trans (hst9.below (by have h1:=HCS.out;omega) (fun k e=>by have h1:=HCS.out;have h2:=HT.out.rb (xn) k (by omega) e;omega));have hna:¬(R (xn)).1.ownBlock=some bt:=(fun e=>by have h2:=HT.out.rb (xn) _ (by omega) e;omega);have q1:=(hst9.cell (o:=xn) (by omega) hna).trans HGN.out;have q2:=(hst9.frozen (o:=xn) (by omega) hna).trans HGF.out;rw[HV.out] at q1));refine ⟨?_,?_⟩;focus (exact ⟨_,below_over (by repeat (first|assumption|exact Below.refl _ _|refine keep_drew ?_|refine keep_alloc ?_ _|refine keep_trans ?_ (by assumption)))⟩)))
      refine wpS_late _ _ _ rfl ?_
      dsimp only[List.map]
      go_wp2_with ((at_builtin;refine wpList_append_own2 _ rfl _ _ 22 rfl 3 i1 (.int .i64 0) 1 8 Tryz.underlying22 hi hz0 hz1 hz2 rfl (by decide) _ _ _ rfl (owns_drew (hown.alloc _)) ⟨wr.heap.size,0,none⟩ 1 1 [.int .i64 (k:Int)] rfl rfl (cell_one_drew _ _ _) (by simp[Value.oneCell']) (by unfold maxLen;omega) (by omega) ?_;intro v' w9 hown' hgrow hnew;obtain ⟨av,cv,rfl⟩:=owns_shape hown';have hst9:Stays (fun k=>(R (xn)).1.ownBlock=some k) wr w9:=(Below.stays ((Below.refl _ wr).alloc (Nat.le_refl _) (.cells #[.int .i64 (k:Int)] 3)).drew _).trans (Stays.grown (S:=fun k=>(R (xn)).1.ownBlock=some k) hgrow (fun k e=>(by rw[HV.out];exact e))) (fun i e => .inl e);have hbS9:Below S.heap.size S w9:=hcb.trans (hst9.below (by have h1:=HCS.out;omega) (fun k e=>by have h1:=HCS.out;have h2:=HT.out.rb (xn) k (by omega) e;omega));have hna:¬(R (xn)).1.ownBlock=some bt:=(fun e=>by have h2:=HT.out.rb (xn) _ (by omega) e;omega);have q1:=(hst9.cell (o:=xn) (by omega) hna).trans HGN.out;have q2:=(hst9.frozen (o:=xn) (by omega) hna).trans HGF.out;rw[HV.out] at q1))
      refine NoPanic.normal ?_
      have hupd:TW W0 (w9.setCell ⟨if (xn)<9 then bt else be,if (xn)<9 then (xn) else (xn) - 9,none⟩ (.slice av ((R (xn)).2.length+1) cv)) bt be bs (.slice none 0 0) (updF R (xn) (.slice av ((R (xn)).2.length+1) cv,(R (xn)).2++[(k:Int)])):=HT.out.step (by omega) hst9 (owns_up hown' (fun i e=>(hnew i e).elim (fun e2=>((HT.out.te.row (xn) (by omega)).lt i (by rw[HV.out];exact e2)).1) (fun e2=>by have:=HT.out.bl.size;simp at e2;omega))) (fun i e=>(hnew i e).imp (fun e2=>by rw[HV.out];exact e2) (fun e2=>by simp at e2;omega))
      rw[if_pos hxn,if_pos hxn] at hupd
      have HUP:=Lib.hid hupd
      clear hupd q1 q2 hnew hown' hgrow hst9 hbS9 hcb g9 gn hbS haS
      go_wp2_with fail
      go_roundw
      case rel =>
       refine ⟨j+1,_,by omega,by go_num,HUP,fun i hi=>?_⟩
       rw[updF_row,HSTEP.out i hi]
       by_cases e:i=xn
       ·subst e;rw[if_pos rfl,if_pos rfl,HR.out i hi]
       ·rw[if_neg e,if_neg (by omega),HR.out i hi]
      case measure=>simp[intOf];omega
     ·have e:j=3:=by omega
      subst e
      have hbr:=HT.out.bl
      have hWB:Below w.heap.size w wr:=FB.out.trans (hbr.mono (by have:=FB.out.size;omega))
      obtain ⟨b8,o8,ea,hl8,hc8⟩:=(HIC.out).2 2 (by omega)
      subst ea
      have c8:=((bcell hWB).1 b8 _ hl8).trans hc8
      have l8:=Nat.lt_of_lt_of_le hl8 hWB.size
      have hrng:=semi_rng k hk6 2 (by omega)
      have HSTEP:=Lib.hid (stR_last k hk6)
      generalize (semi3[k]?.getD [])[2]?.getD 0=x at c8 hrng HSTEP
      obtain ⟨xn,rfl⟩:∃t:Nat,x=(t:Int):=⟨x.toNat,by omega⟩
      have hxn:xn<9:=by omega
      have hxi:(xn:Int)<9:=by omega
      clear hbr hWB hc8 hl8 hrng
      go_upto_region 11 with fail
      clear c8 l8
      have hi18:9+xn<18:=by omega
      obtain ⟨ar,cr,hv⟩:=owns_shape (HT.out.te.row (9+xn) hi18)
      have hown:=owns_base (HT.out.te.row (9+xn) hi18) (Nat.zero_le _)
      have HLEN:Hid ((R (9+xn)).2.length≤7):=by unfold Hid;rw[HR.out (9+xn) hi18];exact stR_len k hk6 _ (by omega) (9+xn) hi18
      have hrl:=HLEN.out
      have gq:wr.cell? ⟨be,xn,none⟩=some (R (9+xn)).1∧wr.frozen? ⟨be,xn,none⟩=false:=by have h1:=HT.out.cell (i:=9+xn) (by omega);rw[if_neg (by omega),if_neg (by omega),show 9+xn - 9=xn by omega] at h1;exact h1
      obtain ⟨gn',gf'⟩:=gq
      have HGN:=Lib.hid gn'
      have HGF:=Lib.hid gf'
      rw[hv] at hown gn'
      have g9':=q_cell HT.out.sb 1
      have hbl:=q_lt HT.out.sb
      have htl:be<bs:=by have:=HT.out.lt;omega
      have hBt:bs+1≤wr.heap.size:=by omega
      have hcs:=cutW_size hBt
      have hcb:=cutW_below hBt
      have g9:=(cutW_cell hBt (o:=1) (by omega:bs<bs+1)).trans g9'
      have gn:=(cutW_cell hBt (o:=xn) (by omega:be<bs+1)).trans gn'
      have hbS:bs<(cutW wr (bs+1)).heap.size:=by omega
      have haS:be<(cutW wr (bs+1)).heap.size:=by omega
      generalize (cutW wr (bs+1))=S at hcs hcb g9 gn hbS haS
      have HCS:=Lib.hid hcs
      have HV:=Lib.hid hv
      clear hcs hv gn' gf' g9'
      obtain ⟨i1,hi,hz0,hz1,hz2⟩:=info_parts infoInt
      clear hi18
      refine wp_region_S (fun w'=>∃u,w'=over (S) u) [16] [(0,0),(0,1),(0,2),(0,3),(0,4),(0,5),(0,6),(0,7),(0,8),(0,9),(0,10),(0,11),(0,12),(1,13),(1,14),(0,15),(2,16)] (by kernel_rfl) (by kernel_rfl) (by exact ⟨_,below_over (by repeat (first|assumption|exact Below.refl _ _|refine keep_drew ?_|refine keep_alloc ?_ _|refine keep_trans ?_ (by assumption)))⟩) ?_
      dsimp only[pickOps,nthOp]
      repeat (first|(refine wpS_skip rfl (fun K hK=>?_);go_big_quiet_op;refine hK _ ?_;clear hK K)|(refine wpS_quiet rfl rfl (fun K hK=>?_);go_big_quiet_op;refine hK _ ?_;clear hK K)|(refine wpS_loud ?_;go_wp2_with ((at_builtin;refine wpList_append_own2 _ rfl _ _ 22 rfl 3 i1 (.int .i64 0) 1 8 Tryz.underlying22 hi hz0 hz1 hz2 rfl (by decide) _ _ _ rfl (owns_drew (hown.alloc _)) ⟨wr.heap.size,0,none⟩ 1 1 [.int .i64 (k:Int)] rfl rfl (cell_one_drew _ _ _) (by simp[Value.oneCell']) (by unfold maxLen;omega) (by omega) ?_;intro v' w9 hown' hgrow hnew;obtain ⟨av,cv,rfl⟩:=owns_shape hown';have hst9:Stays (fun k=>(R (9+xn)).1.ownBlock=some k) wr w9:=(Below.stays ((Below.refl _ wr).alloc (Nat.le_refl _) (.cells #[.int .i64 (k:Int)] 3)).drew _).trans (Stays.grown (S:=fun k=>(R (9+xn)).1.ownBlock=some k) hgrow (fun k e=>(by rw[HV.out];exact e))) (fun i e => .inl e);have hbS9:Below S.heap.size S w9:=hcb.trans (hst9.below (by have h1:=HCS.out;omega) (fun k e=>by have h1:=HCS.out;have h2:=HT.out.rb (9+xn) k (by omega) e;omega));have hna:¬(R (9+xn)).1.ownBlock=some be:=(fun e=>by have h2:=HT.out.rb (9+xn) _ (by omega) e;omega);have q1:=(hst9.cell (o:=xn) (by omega) hna).trans HGN.out;have q2:=(hst9.frozen (o:=xn) (by omega) hna).trans HGF.out;rw[HV.out] at q1));refine ⟨?_,?_⟩;focus (exact ⟨_,below_over (by repeat (first|assumption|exact Below.refl _ _|refine keep_drew ?_|refine keep_alloc ?_ _|refine keep_trans ?_ (by assumption)))⟩)))
      refine wpS_late _ _ _ rfl ?_
      dsimp only[List.map]
      go_wp2_with ((at_builtin;refine wpList_append_own2 _ rfl _ _ 22 rfl 3 i1 (.int .i64 0) 1 8 Tryz.underlying22 hi hz0 hz1 hz2 rfl (by decide) _ _ _ rfl (owns_drew (hown.alloc _)) ⟨wr.heap.size,0,none⟩ 1 1 [.int .i64 (k:Int)] rfl rfl (cell_one_drew _ _ _) (by simp[Value.oneCell']) (by unfold maxLen;omega) (by omega) ?_;intro v' w9 hown' hgrow hnew;obtain ⟨av,cv,rfl⟩:=owns_shape hown';have hst9:Stays (fun k=>(R (9+xn)).1.ownBlock=some k) wr w9:=(Below.stays ((Below.refl _ wr).alloc (Nat.le_refl _) (.cells #[.int .i64 (k:Int)] 3)).drew _).trans (Stays.grown (S:=fun k=>(R (9+xn)).1.ownBlock=some k) hgrow (fun k e=>(by rw[HV.out];exact e))) (fun i e => .inl e);have hbS9:Below S.heap.size S w9:=hcb.trans (hst9.below (by have h1:=HCS.out;omega) (fun k e=>by have h1:=HCS.out;have h2:=HT.out.rb (9+xn) k (by omega) e;omega));have hna:¬(R (9+xn)).1.ownBlock=some be:=(fun e=>by have h2:=HT.out.rb (9+xn) _ (by omega) e;omega);have q1:=(hst9.cell (o:=xn) (by omega) hna).trans HGN.out;have q2:=(hst9.frozen (o:=xn) (by omega) hna).trans HGF.out;rw[HV.out] at q1))
      refine NoPanic.normal ?_
      have hupd:TW W0 (w9.setCell ⟨if (9+xn)<9 then bt else be,if (9+xn)<9 then (9+xn) else (9+xn) - 9,none⟩ (.slice av ((R (9+xn)).2.length+1) cv)) bt be bs (.slice none 0 0) (updF R (9+xn) (.slice av ((R (9+xn)).2.length+1) cv,(R (9+xn)).2++[(k:Int)])):=HT.out.step (by omega) hst9 (owns_up hown' (fun i e=>(hnew i e).elim (fun e2=>((HT.out.te.row (9+xn) (by omega)).lt i (by rw[HV.out];exact e2)).1) (fun e2=>by have:=HT.out.bl.size;simp at e2;omega))) (fun i e=>(hnew i e).imp (fun e2=>by rw[HV.out];exact e2) (fun e2=>by simp at e2;omega))
      rw[if_neg (by omega),if_neg (by omega),show 9+xn - 9=xn by omega] at hupd
      have HUP:=Lib.hid hupd
      clear hupd q1 q2 hnew hown' hgrow hst9 hbS9 hcb g9 gn hbS haS
      go_wp2_with fail
      go_roundw
      case rel =>
       refine ⟨k+1,_,by omega,by go_num,HUP,fun i hi=>?_⟩
       rw[updF_row,HSTEP.out i hi]
       by_cases e:i=9+xn
       ·subst e;rw[if_pos rfl,if_pos (by omega),HR.out _ hi]
       ·rw[if_neg e,if_neg (by omega),HR.out i hi]
      case measure=>simp[intOf];omega
   ·have e:k=6:=by omega
    subst e
    have d0:=(HT.out.bl.cell (p:=⟨w.heap.size,0,none⟩) l0).trans (q_cell Q0.out 0)
    have e0:wr.cell? ⟨w.heap.size,0,none⟩=some (.int .i64 9):=d0
    have dl:=Nat.lt_of_lt_of_le l0 HT.out.bl.size
    clear d0
    have HK:Hid (KW W0 wr bt be bs R 0 (.slice none 0 0) (fun _=>0)):=⟨HT.out,World.ownsRow_nil _ _ _ _,fun _ e=>(by cases e),fun _ h=>absurd h (Nat.not_lt_zero _),fun _ _ h=>absurd h (Nat.not_lt_zero _)⟩
    go_upto_region 14 with fail
    rw[show ((6:Nat):Int)=6 from rfl]
    clear e0 dl HT
    go_loopw [76] (fun s76 wr=>∃(m:Nat) (aK:Option Addr) (cK:Nat) (mb:Nat→Nat),m≤9∧s76 = .int .i64 (m:Int)∧Hid (KW W0 wr bt be bs R m (.slice aK m cK) mb)) (fun s76 _=>9 - (intOf s76).toNat)
    case atStart=>exact ⟨0,none,0,_,by omega,rfl,HK⟩
    case round =>
     clear HK
     obtain ⟨m,aK,cK,mb,hm9,rfl,HK⟩:=hrel
     by_cases hm:m<9
     ·have hmi:(m:Int)<9:=by omega
      have hmm:=@run_makeMap Tryz.prog
      obtain ⟨i2,hi,hz0,hz1,hz2⟩:=info_parts infoKnown
      have c3:wr.cell? ⟨bs,3,none⟩=some (.slice aK m cK):=q_cell HK.out.tw.sb 3
      have hbl:=q_lt HK.out.tw.sb
      have hown:=owns_base HK.out.ks (Nat.zero_le _)
      go_wp2_with (at_builtin;refine wpList_append_own2 _ rfl _ _ 112 rfl 115 i2 (.map none) 1 8 Tryz.underlying112 hi hz0 hz1 hz2 rfl (by decide) _ _ _ rfl ((hown.alloc _).alloc _) ⟨wr.heap.size+1,0,none⟩ 1 1 [.map (some wr.heap.size)] rfl rfl (cell_two_new _ _ _ _) (by simp[Value.oneCell']) (by unfold maxLen;omega) (by omega) ?_)
      intro v' w9 hown' hgrow hnew
      obtain ⟨av,cv,rfl⟩:=owns_shape hown'
      have hal:Below wr.heap.size wr ((wr.alloc (.map #[] 0)).alloc (.cells #[.map (some wr.heap.size)] 115)):=((Below.refl _ wr).alloc (Nat.le_refl _) _).alloc (by simp) _
      have hst9:Stays (fun k=>(Value.slice aK m cK).ownBlock=some k) wr w9:=(Below.stays hal _).trans (Stays.grown (S:=fun k=>(Value.slice aK m cK).ownBlock=some k) hgrow (fun k e=>e)) (fun i e => .inl e)
      have hmap:w9.heap[wr.heap.size]?=some (.map #[] 0):=by
       have h1:(wr.alloc (.map #[] 0)).heap[wr.heap.size]?=some (.map #[] 0):=World.alloc_heap_new _ _
       have h2:Below (wr.alloc (.map #[] 0)).heap.size (wr.alloc (.map #[] 0)) ((wr.alloc (.map #[] 0)).alloc (.cells #[.map (some wr.heap.size)] 115)):=(Below.refl _ _).alloc (Nat.le_refl _) _
       have h3:=(h2.block wr.heap.size (map_lt h1)).trans h1
       refine (hgrow.block _ (map_lt h3) (fun e=>?_)).trans h3
       have:=(HK.out.ks.lt _ e.symm).2
       omega
      have hstep:=HK.out.step hst9 hmap (owns_up hown' (fun i e=>(hnew i e).elim (fun e2=>(HK.out.ks.lt i e2).1) (fun e2=>by have:=HK.out.tw.bl.size;omega))) (fun i e=>(hnew i e).imp id (fun e2=>by omega))
      have q3:w9.cell? ⟨bs,3,none⟩=some (.slice aK m cK):=(hst9.cell hbl (fun e=>by have:=(HK.out.kb bs e).1;omega)).trans c3
      have q4:w9.frozen? ⟨bs,3,none⟩=false:=(hst9.frozen hbl (fun e=>by have:=(HK.out.kb bs e).1;omega)).trans (q_free HK.out.tw.sb 3)
      have q5:bs<w9.heap.size:=Nat.lt_of_lt_of_le hbl hst9.size
      have HS:=Lib.hid hstep
      clear hstep hmap hst9 hal hnew hgrow hown' hown
      go_wp2_with fail
      go_roundw
      case rel=>exact ⟨m+1,av,cv,_,by omega,by go_num,HS⟩
      case measure=>simp[intOf];omega
     ·have e:m=9:=by omega
      subst e
      obtain ⟨h1,h2⟩:=HK.out.end HR.out
      have HRT:Hid (SrO w (.returned (.pointer (some ⟨bs,0,none⟩))) wr):=⟨_,rfl,rfl,rfl,rfl,h1,h2,fun c hc=>by have h3:=(HK.out.mp c hc).1;have h4:=HK.out.tw.zb;have h5:=FB.out.size;show w.heap.size≤mb c;omega,FB.out.trans (HK.out.tw.bl.mono FB.out.size)⟩
      clear h1 h2
      go_wp2_with fail
      go_ret
      exact HRT.out
end
section
open Go Go.RowKit Go.Maps
attribute [local go_sem] over_cell
attribute [local go_sem] overC_cell
attribute [local go_sem] Oper.semAt_some
theorem cnt6 (S:SP) (h2:S.TL=thr3) (h3:S.EL=end3):cntF S.Th S.En 9 0 one6=6:=by
 have a:S.Th=fun c=>thr3[c]?.getD []:=by funext c;unfold SP.Th;rw[h2]
 have b:S.En=fun c=>end3[c]?.getD []:=by funext c;unfold SP.En;rw[h3]
 rw[a,b]
 exact count3
theorem ccount6_c (S:SP) (h1:S.n=9) (h2:S.TL=thr3) (h3:S.EL=end3) (w:World) (hB:SB S w) (hM:SM S 0 w) :
  Calls Tryz.prog 57 #[.pointer (some ⟨S.bs,0,none⟩),.int .i64 0,.agg #[.int .i64 (one6 0),.int .i64 (one6 1),.int .i64 (one6 2),.int .i64 (one6 3),.int .i64 (one6 4),.int .i64 (one6 5),.int .i64 (one6 6),.int .i64 (one6 7),.int .i64 (one6 8),.int .i64 (one6 9),.int .i64 (one6 10),.int .i64 (one6 11)]] w fun e w'=>e = .returned (.int .i64 6)∧Stays (MbS S) w w':=by
 have h:=cnt_all S (by omega) 9 0 (by omega) one6 0 w okR_one6 hB hM (by
  have:=bud_le 9
  have e:(26:Nat) ^ 9=5429503678976:=by decide
  omega)
 rw[cnt6 S h2 h3] at h
 refine Calls.mono h ?_
 rintro _ w1 ⟨rfl,_,h5⟩
 exact ⟨rfl,h5⟩
theorem counting3_c (a:Option Addr) (ca:Nat) (w:World) (h:RC w a 6 semi3) :
  Calls Tryz.prog 35 #[.agg #[.int .i64 9,.slice a 6 ca],.int .i64 1,.int .i64 0] w fun e w'=>e = .returned (.int .i64 6)∧Below w.heap.size w w':=by
 have HST:=Lib.hid (fun W (hb:Below w.heap.size w W)=>cstart3_c a ca W (h.mono hb))
 have HSO:=Lib.hid (fun W (hb:Below w.heap.size w W)=>searchOf3_c a ca W (h.mono hb))
 clear h
 go_enter Tryz.func35,Tryz.ntmps35
 go_upto_region 1 with fail
 have fsz:(w.alloc (.cells #[.int .i64 9,.slice a 6 ca] 44)).heap.size=w.heap.size+1:=by simp only[World.size_alloc]
 have fB:Below w.heap.size w (w.alloc (.cells #[.int .i64 9,.slice a 6 ca] 44)):=(Below.refl _ _).alloc (Nat.le_refl _) _
 have fq0:(w.alloc (.cells #[.int .i64 9,.slice a 6 ca] 44)).heap[w.heap.size]?=some (.cells #[.int .i64 9,.slice a 6 ca] 44 (0,0)):=by have h:=World.alloc_heap_new w (.cells #[.int .i64 9,.slice a 6 ca] 44);exact h
 generalize (w.alloc (.cells #[.int .i64 9,.slice a 6 ca] 44))=W0 at fsz fB fq0 ⊢
 have c0:W0.cell? ⟨w.heap.size,0,none⟩=some (.int .i64 9):=q_cell fq0 0
 have c1:W0.cell? ⟨w.heap.size,1,none⟩=some (.slice a 6 ca):=q_cell fq0 1
 have l0:=q_lt fq0
 have FB:=Lib.hid fB
 have Q0:=Lib.hid fq0
 clear fq0 fsz fB
 go_upto_region 2 with (go_at_call 55;refine (HST.out _ FB.out).mono ?_;rintro _ w1 ⟨rfl,hb1⟩)
 have gsz:(w1.alloc (.cells #[.int .i64 (one6 0),.int .i64 (one6 1),.int .i64 (one6 2),.int .i64 (one6 3),.int .i64 (one6 4),.int .i64 (one6 5),.int .i64 (one6 6),.int .i64 (one6 7),.int .i64 (one6 8),.int .i64 (one6 9),.int .i64 (one6 10),.int .i64 (one6 11)] 90)).heap.size=w1.heap.size+1:=by simp only[World.size_alloc]
 have gB:Below w1.heap.size w1 (w1.alloc (.cells #[.int .i64 (one6 0),.int .i64 (one6 1),.int .i64 (one6 2),.int .i64 (one6 3),.int .i64 (one6 4),.int .i64 (one6 5),.int .i64 (one6 6),.int .i64 (one6 7),.int .i64 (one6 8),.int .i64 (one6 9),.int .i64 (one6 10),.int .i64 (one6 11)] 90)):=(Below.refl _ _).alloc (Nat.le_refl _) _
 have gq0:(w1.alloc (.cells #[.int .i64 (one6 0),.int .i64 (one6 1),.int .i64 (one6 2),.int .i64 (one6 3),.int .i64 (one6 4),.int .i64 (one6 5),.int .i64 (one6 6),.int .i64 (one6 7),.int .i64 (one6 8),.int .i64 (one6 9),.int .i64 (one6 10),.int .i64 (one6 11)] 90)).heap[w1.heap.size]?=some (.cells #[.int .i64 (one6 0),.int .i64 (one6 1),.int .i64 (one6 2),.int .i64 (one6 3),.int .i64 (one6 4),.int .i64 (one6 5),.int .i64 (one6 6),.int .i64 (one6 7),.int .i64 (one6 8),.int .i64 (one6 9),.int .i64 (one6 10),.int .i64 (one6 11)] 90 (0,0)):=by have h:=World.alloc_heap_new w1 (.cells #[.int .i64 (one6 0),.int .i64 (one6 1),.int .i64 (one6 2),.int .i64 (one6 3),.int .i64 (one6 4),.int .i64 (one6 5),.int .i64 (one6 6),.int .i64 (one6 7),.int .i64 (one6 8),.int .i64 (one6 9),.int .i64 (one6 10),.int .i64 (one6 11)] 90);exact h
 generalize (w1.alloc (.cells #[.int .i64 (one6 0),.int .i64 (one6 1),.int .i64 (one6 2),.int .i64 (one6 3),.int .i64 (one6 4),.int .i64 (one6 5),.int .i64 (one6 6),.int .i64 (one6 7),.int .i64 (one6 8),.int .i64 (one6 9),.int .i64 (one6 10),.int .i64 (one6 11)] 90))=W2 at gsz gB gq0 ⊢
 have hb2:Below W0.heap.size W0 W2:=hb1.trans (gB.mono hb1.size)
 have d0:=(hb2.cell (p:=⟨w.heap.size,0,none⟩) l0).trans c0
 have d1:=(hb2.cell (p:=⟨w.heap.size,1,none⟩) l0).trans c1
 have dl:=Nat.lt_of_lt_of_le l0 hb2.size
 have HQ:=Lib.hid gq0
 have HI2:=Lib.hid (isC_of (keepq hb2 Q0.out))
 have HB2:=Lib.hid (FB.out.trans (hb2.mono FB.out.size))
 have HLT:Hid (w1.heap.size<W2.heap.size):=q_lt gq0
 generalize w1.heap.size=b1 at HQ HLT ⊢
 clear c0 c1 l0 hb1 hb2 gq0 gsz gB
 go_upto_region 4 with fail
 obtain ⟨e0,e1,e2,e3,e4,e5,e6,e7,e8,e9,e10,e11,el⟩:=c12_of HQ.out
 have i2:=isC_of HQ.out
 have i0:=HI2.out
 clear el dl
 have hck0:CKept W2 W2.drew:=CKept.below (keep_drew (Below.refl W2.heap.size W2))
 have HDR:=Lib.hid (keep_drew (Below.refl W2.heap.size W2))
 refine wp_region_S (fun w'=>∃u,w'=overC (W2) u) [4,3] [(0,0),(0,2),(1,1),(2,3),(2,4)] (by kernel_rfl) (by kernel_rfl) (by first|(with_reducible exact ⟨_,ck_over hck0⟩)|(with_reducible exact ⟨_,ck_over hck5⟩)) ?_
 dsimp only[pickOps,nthOp]
 repeat (first|(refine wpS_skip rfl (fun K hK=>?_);go_big_quiet_op;refine hK _ ?_;clear hK K)|(refine wpS_quiet rfl rfl (fun K hK=>?_);go_big_quiet_op;refine hK _ ?_;clear hK K)|(refine wpS_loud ?_;go_wp2_with (first|(go_at_call 56;refine (HSO.out _ (HB2.out.trans (HDR.out.mono HB2.out.size))).mono ?_;rintro _ w5 ⟨S,rfl,hn,hT,hE,hSB,hSM,hmb,hb5⟩;have hck5:CKept W2 w5:=hck0.trans (CKept.below hb5))|(go_at_call 57;refine (ccount6_c S hn hT hE _ hSB hSM).mono ?_;rintro _ w6 ⟨rfl,hst6⟩)|fail);refine ⟨?_,?_⟩;focus (first|(with_reducible exact ⟨_,ck_over hck0⟩)|(with_reducible exact ⟨_,ck_over hck5⟩))))
 refine wpS_late _ _ _ rfl ?_
 dsimp only[List.map]
 go_wp2_with (first|(go_at_call 56;refine (HSO.out _ (HB2.out.trans (HDR.out.mono HB2.out.size))).mono ?_;rintro _ w5 ⟨S,rfl,hn,hT,hE,hSB,hSM,hmb,hb5⟩;have hck5:CKept W2 w5:=hck0.trans (CKept.below hb5))|(go_at_call 57;refine (ccount6_c S hn hT hE _ hSB hSM).mono ?_;rintro _ w6 ⟨rfl,hst6⟩)|fail)
 refine NoPanic.normal ?_
 have h25:Below w.heap.size w w5:=HB2.out.trans ((HDR.out.trans hb5).mono HB2.out.size)
 have h56:Below w.heap.size w5 w6:=hst6.below h25.size (fun k e=>by
  obtain ⟨c,hc,rfl⟩:=e
  have h1:=hmb c (by omega)
  have h2:=HB2.out.size
  have h3:W2.drew.heap.size=W2.heap.size:=rfl
  omega)
 go_wp2_with fail
 go_ret
 exact ⟨rfl,h25.trans h56⟩
theorem count6_c (a:Option Addr) (ca:Nat) (w:World) (h:RC w a 6 semi3) (hcap:6≤ca) :
  Calls Tryz.prog 13 #[.agg #[.int .i64 9,.slice a 6 ca],.int .i64 1] w fun e w'=>e = .returned (.tuple #[.int .i64 6,.int .i64 0])∧Below w.heap.size w w':=by
 have HCC:=Lib.hid (fun W (hb:Below w.heap.size w W)=>ccone3_c a ca W (h.mono hb) hcap)
 have HCO:=Lib.hid (fun W (hb:Below w.heap.size w W)=>counting3_c a ca W (h.mono hb))
 have HSU:=Lib.hid (fun W=>csum1_c W)
 have HFI:=Lib.hid (fun W=>cfirst00_c W)
 clear h
 go_enter Tryz.func13,Tryz.ntmps13
 go_upto_region 1 with fail
 have fsz:(w.alloc (.cells #[.int .i64 9,.slice a 6 ca] 44)).heap.size=w.heap.size+1:=by simp only[World.size_alloc]
 have fB:Below w.heap.size w (w.alloc (.cells #[.int .i64 9,.slice a 6 ca] 44)):=(Below.refl _ _).alloc (Nat.le_refl _) _
 have fq0:(w.alloc (.cells #[.int .i64 9,.slice a 6 ca] 44)).heap[w.heap.size]?=some (.cells #[.int .i64 9,.slice a 6 ca] 44 (0,0)):=by have h:=World.alloc_heap_new w (.cells #[.int .i64 9,.slice a 6 ca] 44);exact h
 generalize (w.alloc (.cells #[.int .i64 9,.slice a 6 ca] 44))=W0 at fsz fB fq0 ⊢
 have c0:W0.cell? ⟨w.heap.size,0,none⟩=some (.int .i64 9):=q_cell fq0 0
 have c1:W0.cell? ⟨w.heap.size,1,none⟩=some (.slice a 6 ca):=q_cell fq0 1
 have l0:=q_lt fq0
 have FB:=Lib.hid fB
 clear fq0 fsz fB
 go_upto_region 2 with (first|(go_at_call 33;refine (HCC.out _ FB.out).mono ?_;rintro _ w1 ⟨rfl,hb1⟩)|(go_at_call 34;refine (HSU.out _).mono ?_;rintro _ w2 ⟨rfl,hb2⟩)|(go_at_call 17;refine (HFI.out _).mono ?_;rintro _ w4 ⟨rfl,rfl⟩)|fail)
 have hb4:Below W0.heap.size W0 (w2.alloc (.cells #[.int .i64 0,.int .i64 0] 32)):=keep_trans hb1 (keep_trans hb2 ((Below.refl _ _).alloc (Nat.le_refl _) _))
 generalize (w2.alloc (.cells #[.int .i64 0,.int .i64 0] 32))=w3 at hb4 ⊢
 have d0:=(hb4.cell (p:=⟨w.heap.size,0,none⟩) l0).trans c0
 have d1:=(hb4.cell (p:=⟨w.heap.size,1,none⟩) l0).trans c1
 have dl:=Nat.lt_of_lt_of_le l0 hb4.size
 have HB3:=Lib.hid (keep_trans FB.out hb4)
 clear c0 c1 l0 hb4 hb1 hb2
 go_wp2_with (first|(go_at_call 35;refine (HCO.out _ HB3.out).mono ?_;rintro _ w5 ⟨rfl,hb5⟩)|fail)
 refine bodyPost_ret (v := .tuple #[.int .i64 6,.int .i64 0]) ?_ rfl ⟨rfl,keep_trans HB3.out hb5⟩
 simp[results,Tryz.f13,go_sem]
end
section
theorem sigT_nil {f:Nat→Int}:∀n,(∀i,i<n→0≤f i)→sigT n f=0→∀i,i<n→f i=0:=by
 intro n h0 hs i hi
 obtain ⟨h1,h2⟩:=sigT_part h0 (show i+1≤n by omega)
 have h3:=(sigT_part h0 (show i≤n by omega)).1
 have h4:sigT (i+1) f=sigT i f+f i:=rfl
 have:=h0 i hi
 omega
theorem SumW.zero {n:Nat} {m:Nat→Nat→Int} (H:SumW n 0 m) {i j:Nat} (hi:i<n) (hj:j<n):m i j=0 :=
 sigT_nil n (fun j hj=>H.1 i j hi hj) (H.2.1 i hi) j hj
theorem bir_total {n:Nat} {M:Nat→Nat→Int} {T:List (List Int × Int)} {S:Int} (B:BirT n M T) (H:SumW n S M) (hS:sumX T=S) {i j:Nat} (hi:i<n) (hj:j<n):mT M T i j=0∧sumT T i j=M i j:=by
 have h:=B.sum H
 have e:(T.map (·.2)).sum=S:=hS
 rw[e,Int.sub_self] at h
 have h0:=h.zero hi hj
 refine ⟨h0,?_⟩
 rw[mT_sum] at h0
 omega
theorem sigT_le {f:Nat→Int} {B:Int}:∀n,(∀i,i<n→f i≤B)→sigT n f≤(n:Int)*B:=by
 intro n
 induction n with
 | zero=>intro _;simp[sigT]
 | succ n ih =>
  intro h
  have h1:=ih (fun i hi=>h i (by omega))
  have h2:=h n (by omega)
  have h3:sigT (n+1) f=sigT n f+f n:=rfl
  rw[h3,Int.natCast_succ,Int.add_mul]
  omega
theorem loom_sumW {n:Nat} (h5:n≤5) {cs X:List Int} (L:Latin n cs) {m:List (List Int)} (hm:EntM n m (loomS n cs (wtL X))):SumW n (sigT n (wtL X)) (entL m)∧sigT n (wtL X)≤95:=by
 have hw:∀x,0≤wtL X x:=fun x=>(wtL_bd X x).1
 have H:=(loomS_sum L hw).w
 refine ⟨⟨fun i j hi hj=>by rw[hm i j hi hj];exact H.1 i j hi hj,fun i hi=>?_,fun j hj=>?_⟩,?_⟩
 ·rw[← H.2.1 i hi];exact sigT_congr fun j hj=>hm i j hi hj
 ·rw[← H.2.2 j hj];exact sigT_congr fun i hi=>hm i j hi hj
 ·have h1:=sigT_le (f:=wtL X) (B:=19) n (fun i _=>(wtL_bd X i).2)
  omega
theorem mT_ent {n:Nat} {m:List (List Int)} {M:Nat→Nat→Int} (hm:EntM n m M) (T:List (List Int × Int)) {i j:Nat} (hi:i<n) (hj:j<n):mT (entL m) T i j=mT M T i j:=by
 rw[mT_sum,mT_sum,hm i j hi hj]
theorem loom_zero {n:Nat} {cs X:List Int} (L:Latin n cs) {m:List (List Int)} (hm:EntM n m (loomS n cs (wtL X))) {T:List (List Int × Int)} (hT:LoomT n cs (wtL X) n T) {i j:Nat} (hi:i<n) (hj:j<n):mT (entL m) T i j=0:=by
 rw[mT_ent hm T hi hj]
 exact hT.zero L (fun _ _ _ _=>rfl) hi hj
theorem sumT_snoc' (T:List (List Int × Int)) (t:List Int × Int) (i j:Nat):sumT (T++[t]) i j=sumT T i j+if j=permF t.1 i then t.2 else 0:=by
 unfold sumT;rw[List.map_append,List.sum_append];simp
theorem sumT_take {T:List (List Int × Int)} {k:Nat} (hk:k<T.length) (i j:Nat):sumT (T.take (k+1)) i j=sumT (T.take k) i j+if j=permF (T[k]?.getD ([],0)).1 i then (T[k]?.getD ([],0)).2 else 0:=by
 have e:T[k]?=some (T[k]?.getD ([],0)):=by rw[List.getElem?_eq_getElem hk];rfl
 rw[List.take_add_one,e,Option.toList_some,sumT_snoc',Option.getD_some]
theorem sumT_bd {T:List (List Int × Int)} (h:∀t,t∈T→1≤t.2∧t.2≤1000) (i j:Nat):0≤sumT T i j∧sumT T i j≤(T.length:Int)*1000:=by
 induction T with
 | nil=>simp[sumT]
 | cons t T ih =>
  have h1:=ih (fun u hu=>h u (List.mem_cons_of_mem _ hu))
  have h2:=h t (List.mem_cons_self ..)
  have e:sumT (t :: T) i j=(if j=permF t.1 i then t.2 else 0)+sumT T i j:=by simp[sumT]
  rw[e,List.length_cons,Int.natCast_succ,Int.add_mul]
  split <;> omega
def restR (T:List (List Int × Int)) (k n i:Nat):List Int:=(List.range n).map fun j=>sumT (T.take k) i j
theorem restR_zero (T:List (List Int × Int)) (n i:Nat):restR T 0 n i=List.replicate n 0:=by
 apply List.ext_getElem?
 intro j
 unfold restR
 by_cases h:j<n
 ·rw[List.getElem?_map,List.getElem?_range h,List.getElem?_replicate,if_pos h];rfl
 ·rw[List.getElem?_eq_none (by simp;omega),List.getElem?_eq_none (by simp;omega)]
theorem restR_at (T:List (List Int × Int)) (k i:Nat) {n j:Nat} (h:j<n):(restR T k n i)[j]?.getD 0=sumT (T.take k) i j:=by
 unfold restR
 rw[List.getElem?_map,List.getElem?_range h];rfl
theorem restR_set {T:List (List Int × Int)} {k n i p:Nat} (hk:k<T.length) (hp:permF (T[k]?.getD ([],0)).1 i=p):(restR T k n i).set p (sumT (T.take k) i p+(T[k]?.getD ([],0)).2)=restR T (k+1) n i:=by
 apply List.ext_getElem?
 intro j
 unfold restR
 by_cases h:j<n
 ·by_cases e:j=p
  ·subst e
   rw[List.getElem?_set_self (by simpa using h),List.getElem?_map,List.getElem?_range h]
   show _=some (sumT (T.take (k+1)) i j)
   rw[sumT_take hk,if_pos hp.symm]
  ·rw[List.getElem?_set_ne (fun h=>e h.symm),List.getElem?_map,List.getElem?_map,List.getElem?_range h]
   show some (sumT (T.take k) i j)=some (sumT (T.take (k+1)) i j)
   rw[sumT_take hk,if_neg (by rw[hp];exact e)]
   simp
 ·rw[List.getElem?_eq_none (by simp;omega),List.getElem?_eq_none (by simp;omega)]
end
section
open Go Go.RowKit Go.Maps
attribute [local go_sem] over_cell
attribute [local go_sem] Oper.semAt_some
def ones3:List (List Int):=[[1,1,1],[1,1,1],[1,1,1]]
def term3:List (List Int × Int):=[([0,2,1],1),([1,0,2],1),([2,1,0],1)]
theorem ones_ent:∀i,i<3→∀j,j<3→entL ones3 i j=1:=by decide
theorem ones_sum:SumW 3 3 (entL ones3):=by
 refine ⟨fun i j hi hj=>?_,(by decide:∀i,i<3→sigT 3 (fun j=>entL ones3 i j)=3),(by decide:∀j,j<3→sigT 3 (fun i=>entL ones3 i j)=3)⟩
 rw[ones_ent i hi j hj];decide
theorem ones_row:∀i,i<3→(ones3[i]?.getD []).length=3:=by decide
theorem term_per:∀t,t∈term3→PerN 3 t.1:=by
 intro t ht
 have h:∀t,t∈term3→t.1.length=3∧(∀i,i<3→0≤t.1[i]?.getD 0∧t.1[i]?.getD 0<3)∧∀i,i<3→∀j,j<3→t.1[i]?.getD 0=t.1[j]?.getD 0→i=j:=by decide
 obtain ⟨a,b,c⟩:=h t ht
 exact ⟨a,b,fun i j hi hj=>c i hi j hj⟩
theorem term_tim:∀t,t∈term3→1≤t.2∧t.2≤1000:=by decide
theorem term_zero:∀i j,i<3→j<3→mT (entL ones3) term3 i j=0:=fun i j hi hj=>(by decide:∀i,i<3→∀j,j<3→mT (entL ones3) term3 i j=0) i hi j hj
theorem ones_three {T:List (List Int × Int)} (B:BirT 3 (entL ones3) T) (h:∀t,t∈T→1≤t.2∧t.2≤1000) (hs:sumX T=3):T.length=3:=by
 have h1:∀t,t∈T→t.2=1:=by
  intro t ht
  obtain ⟨k,hk,e⟩:=List.mem_iff_getElem.1 ht
  have hg:T[k]?=some t:=by rw[List.getElem?_eq_getElem hk,e]
  have h2:=B.le k t hg 0 (by omega)
  have h3:=((B.per k t hg).lt (i:=0) (by omega)).1
  rw[mT_sum,ones_ent 0 (by omega) _ h3] at h2
  have h4:=(sumT_bd (T:=T.take k) (fun u hu=>h u (List.mem_of_mem_take hu)) 0 (permF t.1 0)).1
  have:=h t ht
  omega
 have h5:∀T:List (List Int × Int),(∀t,t∈T→t.2=1)→sumX T=(T.length:Int):=by
  intro T
  induction T with
  | nil=>intro _;rfl
  | cons t T ih =>
   intro hT
   have e:sumX (t :: T)=t.2+sumX T:=by simp[sumX]
   rw[e,ih (fun u hu=>hT u (List.mem_cons_of_mem _ hu)),hT t (List.mem_cons_self ..),List.length_cons,Int.natCast_succ]
   omega
 have:=h5 T h1
 omega
theorem ic_q3 {W:World} {b:Nat} {x y z:Int} {T:TypeId} (h:W.heap[b]?=some (.cells #[.int .i64 x,.int .i64 y,.int .i64 z] T (0,0))):IC W (some ⟨b,0,none⟩) 3 [x,y,z] :=
 ⟨⟨rfl,by omega⟩,fun k hk=>⟨b,0,rfl,q_lt h,by
  rw[Nat.zero_add]
  match k,hk with
  | 0,_=>exact q_cell h 0
  | 1,_=>exact q_cell h 1
  | 2,_=>exact q_cell h 2⟩⟩
theorem rc_q3 {W:World} {b:Nat} {p q r:Nat} {l0 l1 l2:List Int} {T:TypeId} (h:W.heap[b]?=some (.cells #[.slice (some ⟨p,0,none⟩) 3 3,.slice (some ⟨q,0,none⟩) 3 3,.slice (some ⟨r,0,none⟩) 3 3] T (0,0))) (h0:IC W (some ⟨p,0,none⟩) 3 l0) (h1:IC W (some ⟨q,0,none⟩) 3 l1) (h2:IC W (some ⟨r,0,none⟩) 3 l2):RC W (some ⟨b,0,none⟩) 3 [l0,l1,l2] :=
 ⟨⟨rfl,by omega⟩,fun k hk=>by
  match k,hk with
  | 0,_=>exact ⟨b,0,_,3,3,rfl,q_lt h,q_cell h 0,h0,Nat.le_refl _⟩
  | 1,_=>exact ⟨b,0,_,3,3,rfl,q_lt h,q_cell h 1,h1,Nat.le_refl _⟩
  | 2,_=>exact ⟨b,0,_,3,3,rfl,q_lt h,q_cell h 2,h2,Nat.le_refl _⟩⟩
theorem tl_q3 {W:World} {b:Nat} {p q r:Nat} {l0 l1 l2:List Int} {x y z:Int} {T:TypeId} (h:W.heap[b]?=some (.cells #[.slice (some ⟨p,0,none⟩) 3 3,.int .i64 x,.slice (some ⟨q,0,none⟩) 3 3,.int .i64 y,.slice (some ⟨r,0,none⟩) 3 3,.int .i64 z] T (0,0))) (h0:IC W (some ⟨p,0,none⟩) 3 l0) (h1:IC W (some ⟨q,0,none⟩) 3 l1) (h2:IC W (some ⟨r,0,none⟩) 3 l2):TL W (some ⟨b,0,none⟩) 3 3 [(l0,x),(l1,y),(l2,z)] :=
 ⟨⟨rfl,by omega⟩,fun k hk=>by
  match k,hk with
  | 0,_=>exact ⟨b,0,_,3,rfl,q_lt h,q_cell h 0,q_cell h 1,h0,Nat.le_refl _⟩
  | 1,_=>exact ⟨b,0,_,3,rfl,q_lt h,q_cell h 2,q_cell h 3,h1,Nat.le_refl _⟩
  | 2,_=>exact ⟨b,0,_,3,rfl,q_lt h,q_cell h 4,q_cell h 5,h2,Nat.le_refl _⟩⟩
theorem cyc3_c (w:World):Calls Tryz.prog 11 #[.int .i64 3] w fun e w'=>∃a c,e = .returned (.tuple #[.agg #[.int .i64 3,.int .i64 3,.slice a 9 c],.int .i64 0])∧Below w.heap.size w w':=by
 have h:=cyclic_c 3 w
 have e1:ordE 3=0:=by decide +kernel
 have e2:(cycL 3).length=9:=by decide +kernel
 rw[if_pos e1,e1] at h
 refine Calls.mono h ?_
 rintro _ w' ⟨a,c,rfl,_,hb⟩
 rw[e2]
 exact ⟨a,c,rfl,hb⟩
theorem birk3_c (bo:Nat) (w:World) (h:RC w (some ⟨bo,0,none⟩) 3 ones3):Calls Tryz.prog 7 #[.slice (some ⟨bo,0,none⟩) 3 3] w fun e w'=>∃a c,e = .returned (.tuple #[.slice a 3 c,.int .i64 0])∧Below w.heap.size w w':=by
 refine Calls.mono (birk_c 3 (by omega) (by omega) _ 3 ones3 3 w h ones_row ones_sum (by omega)) ?_
 rintro _ w' ⟨v,pre,rfl,ht,hb,htm,hs,hB⟩
 have hl:=ones_three hb htm hs
 rw[List.length_map] at hl
 obtain ⟨a,c,rfl,_⟩:=ht.tl (by omega) (by omega)
 rw[hl]
 exact ⟨a,c,rfl,hB⟩
theorem sys3_c (w:World):Calls Tryz.prog 12 #[.string ⟨#[115,101,109,105,109,97,103,105,99]⟩,.int .i64 3] w fun e w'=>∃a c,e = .returned (.tuple #[.agg #[.int .i64 9,.slice a 6 c],.int .i64 0])∧RC w' a 6 semi3∧6≤c∧Below w.heap.size w w':=by
 refine Calls.mono (ssys3_c w) ?_
 rintro _ w' ⟨v,pre,rfl,hr,hm,hB⟩
 have hl:pre.length=6:=by rw[← List.length_map (f:=Prod.snd),hm];rfl
 obtain ⟨a,c,rfl,h1,h2⟩:=hr.rc (by omega) (fun x hx=>by
  have h3:x.2∈semi3:=hm▸List.mem_map_of_mem hx
  have:=(by decide:∀l,l∈semi3→l.length≤3) _ h3
  omega)
 rw[hl,hm] at h1
 rw[hl] at h2 ⊢
 exact ⟨a,c,rfl,h1,h2,hB⟩
theorem cbirk3_c (bo bt:Nat) (w:World) (h:RC w (some ⟨bo,0,none⟩) 3 ones3) (ht:TL w (some ⟨bt,0,none⟩) 3 3 term3):Calls Tryz.prog 8 #[.slice (some ⟨bo,0,none⟩) 3 3,.slice (some ⟨bt,0,none⟩) 3 3] w fun e w'=>e = .returned (.int .i64 0)∧Below w.heap.size w w' :=
 cbirk_c 3 (by omega) (by omega) _ 3 ones3 3 _ 3 3 term3 w h ones_row ones_sum (by omega) ht (by decide) term_per term_tim term_zero
theorem lcone_c (w:World):Calls Tryz.prog 5 #[] w fun e w'=>e = .returned (.bool true)∧Below w.heap.size w w':=by
 have HCY:=Lib.hid (fun W=>cyc3_c W)
 have HSS:=Lib.hid (fun W=>sys3_c W)
 go_enter Tryz.func5,Tryz.ntmps5
 go_upto_region 3 with fail
 have fsz:((((((((w.alloc (.cells #[.int .i64 1,.int .i64 1,.int .i64 1] 3)).alloc (.cells #[.int .i64 1,.int .i64 1,.int .i64 1] 3)).alloc (.cells #[.int .i64 1,.int .i64 1,.int .i64 1] 3)).alloc (.cells #[.slice (some ⟨w.heap.size,0,none⟩) 3 3,.slice (some ⟨w.heap.size+1,0,none⟩) 3 3,.slice (some ⟨w.heap.size+1+1,0,none⟩) 3 3] 22)).alloc (.cells #[.int .i64 0,.int .i64 2,.int .i64 1] 3)).alloc (.cells #[.int .i64 1,.int .i64 0,.int .i64 2] 3)).alloc (.cells #[.int .i64 2,.int .i64 1,.int .i64 0] 3)).alloc (.cells #[.slice (some ⟨w.heap.size+1+1+1+1,0,none⟩) 3 3,.int .i64 1,.slice (some ⟨w.heap.size+1+1+1+1+1,0,none⟩) 3 3,.int .i64 1,.slice (some ⟨w.heap.size+1+1+1+1+1+1,0,none⟩) 3 3,.int .i64 1] 37)).heap.size=w.heap.size+8:=by simp only[World.size_alloc] <;> omega
 have fB:Below w.heap.size w ((((((((w.alloc (.cells #[.int .i64 1,.int .i64 1,.int .i64 1] 3)).alloc (.cells #[.int .i64 1,.int .i64 1,.int .i64 1] 3)).alloc (.cells #[.int .i64 1,.int .i64 1,.int .i64 1] 3)).alloc (.cells #[.slice (some ⟨w.heap.size,0,none⟩) 3 3,.slice (some ⟨w.heap.size+1,0,none⟩) 3 3,.slice (some ⟨w.heap.size+1+1,0,none⟩) 3 3] 22)).alloc (.cells #[.int .i64 0,.int .i64 2,.int .i64 1] 3)).alloc (.cells #[.int .i64 1,.int .i64 0,.int .i64 2] 3)).alloc (.cells #[.int .i64 2,.int .i64 1,.int .i64 0] 3)).alloc (.cells #[.slice (some ⟨w.heap.size+1+1+1+1,0,none⟩) 3 3,.int .i64 1,.slice (some ⟨w.heap.size+1+1+1+1+1,0,none⟩) 3 3,.int .i64 1,.slice (some ⟨w.heap.size+1+1+1+1+1+1,0,none⟩) 3 3,.int .i64 1] 37)):=((((((((Below.refl _ _).alloc (Nat.le_refl _) _).alloc (by simp only[World.size_alloc];omega) _).alloc (by simp only[World.size_alloc];omega) _).alloc (by simp only[World.size_alloc];omega) _).alloc (by simp only[World.size_alloc];omega) _).alloc (by simp only[World.size_alloc];omega) _).alloc (by simp only[World.size_alloc];omega) _).alloc (by simp only[World.size_alloc];omega) _
 have fq0:((((((((w.alloc (.cells #[.int .i64 1,.int .i64 1,.int .i64 1] 3)).alloc (.cells #[.int .i64 1,.int .i64 1,.int .i64 1] 3)).alloc (.cells #[.int .i64 1,.int .i64 1,.int .i64 1] 3)).alloc (.cells #[.slice (some ⟨w.heap.size,0,none⟩) 3 3,.slice (some ⟨w.heap.size+1,0,none⟩) 3 3,.slice (some ⟨w.heap.size+1+1,0,none⟩) 3 3] 22)).alloc (.cells #[.int .i64 0,.int .i64 2,.int .i64 1] 3)).alloc (.cells #[.int .i64 1,.int .i64 0,.int .i64 2] 3)).alloc (.cells #[.int .i64 2,.int .i64 1,.int .i64 0] 3)).alloc (.cells #[.slice (some ⟨w.heap.size+1+1+1+1,0,none⟩) 3 3,.int .i64 1,.slice (some ⟨w.heap.size+1+1+1+1+1,0,none⟩) 3 3,.int .i64 1,.slice (some ⟨w.heap.size+1+1+1+1+1+1,0,none⟩) 3 3,.int .i64 1] 37)).heap[w.heap.size]?=some (.cells #[.int .i64 1,.int .i64 1,.int .i64 1] 3 (0,0)):=by have h:=World.alloc_heap_new w (.cells #[.int .i64 1,.int .i64 1,.int .i64 1] 3);exact (Below.heap_alloc _ _ _ (by simp only[World.size_alloc];omega)).trans ((Below.heap_alloc _ _ _ (by simp only[World.size_alloc];omega)).trans ((Below.heap_alloc _ _ _ (by simp only[World.size_alloc];omega)).trans ((Below.heap_alloc _ _ _ (by simp only[World.size_alloc];omega)).trans ((Below.heap_alloc _ _ _ (by simp only[World.size_alloc];omega)).trans ((Below.heap_alloc _ _ _ (by simp only[World.size_alloc];omega)).trans ((Below.heap_alloc _ _ _ (by simp only[World.size_alloc];omega)).trans (h)))))))
 have fq1:((((((((w.alloc (.cells #[.int .i64 1,.int .i64 1,.int .i64 1] 3)).alloc (.cells #[.int .i64 1,.int .i64 1,.int .i64 1] 3)).alloc (.cells #[.int .i64 1,.int .i64 1,.int .i64 1] 3)).alloc (.cells #[.slice (some ⟨w.heap.size,0,none⟩) 3 3,.slice (some ⟨w.heap.size+1,0,none⟩) 3 3,.slice (some ⟨w.heap.size+1+1,0,none⟩) 3 3] 22)).alloc (.cells #[.int .i64 0,.int .i64 2,.int .i64 1] 3)).alloc (.cells #[.int .i64 1,.int .i64 0,.int .i64 2] 3)).alloc (.cells #[.int .i64 2,.int .i64 1,.int .i64 0] 3)).alloc (.cells #[.slice (some ⟨w.heap.size+1+1+1+1,0,none⟩) 3 3,.int .i64 1,.slice (some ⟨w.heap.size+1+1+1+1+1,0,none⟩) 3 3,.int .i64 1,.slice (some ⟨w.heap.size+1+1+1+1+1+1,0,none⟩) 3 3,.int .i64 1] 37)).heap[w.heap.size+1]?=some (.cells #[.int .i64 1,.int .i64 1,.int .i64 1] 3 (0,0)):=by have h:=World.alloc_heap_new (w.alloc (.cells #[.int .i64 1,.int .i64 1,.int .i64 1] 3)) (.cells #[.int .i64 1,.int .i64 1,.int .i64 1] 3);simp only[World.size_alloc] at h;exact (Below.heap_alloc _ _ _ (by simp only[World.size_alloc];omega)).trans ((Below.heap_alloc _ _ _ (by simp only[World.size_alloc];omega)).trans ((Below.heap_alloc _ _ _ (by simp only[World.size_alloc];omega)).trans ((Below.heap_alloc _ _ _ (by simp only[World.size_alloc];omega)).trans ((Below.heap_alloc _ _ _ (by simp only[World.size_alloc];omega)).trans ((Below.heap_alloc _ _ _ (by simp only[World.size_alloc];omega)).trans (h))))))
 have fq2:((((((((w.alloc (.cells #[.int .i64 1,.int .i64 1,.int .i64 1] 3)).alloc (.cells #[.int .i64 1,.int .i64 1,.int .i64 1] 3)).alloc (.cells #[.int .i64 1,.int .i64 1,.int .i64 1] 3)).alloc (.cells #[.slice (some ⟨w.heap.size,0,none⟩) 3 3,.slice (some ⟨w.heap.size+1,0,none⟩) 3 3,.slice (some ⟨w.heap.size+1+1,0,none⟩) 3 3] 22)).alloc (.cells #[.int .i64 0,.int .i64 2,.int .i64 1] 3)).alloc (.cells #[.int .i64 1,.int .i64 0,.int .i64 2] 3)).alloc (.cells #[.int .i64 2,.int .i64 1,.int .i64 0] 3)).alloc (.cells #[.slice (some ⟨w.heap.size+1+1+1+1,0,none⟩) 3 3,.int .i64 1,.slice (some ⟨w.heap.size+1+1+1+1+1,0,none⟩) 3 3,.int .i64 1,.slice (some ⟨w.heap.size+1+1+1+1+1+1,0,none⟩) 3 3,.int .i64 1] 37)).heap[w.heap.size+1+1]?=some (.cells #[.int .i64 1,.int .i64 1,.int .i64 1] 3 (0,0)):=by have h:=World.alloc_heap_new ((w.alloc (.cells #[.int .i64 1,.int .i64 1,.int .i64 1] 3)).alloc (.cells #[.int .i64 1,.int .i64 1,.int .i64 1] 3)) (.cells #[.int .i64 1,.int .i64 1,.int .i64 1] 3);simp only[World.size_alloc] at h;exact (Below.heap_alloc _ _ _ (by simp only[World.size_alloc];omega)).trans ((Below.heap_alloc _ _ _ (by simp only[World.size_alloc];omega)).trans ((Below.heap_alloc _ _ _ (by simp only[World.size_alloc];omega)).trans ((Below.heap_alloc _ _ _ (by simp only[World.size_alloc];omega)).trans ((Below.heap_alloc _ _ _ (by simp only[World.size_alloc];omega)).trans (h)))))
 have fq3:((((((((w.alloc (.cells #[.int .i64 1,.int .i64 1,.int .i64 1] 3)).alloc (.cells #[.int .i64 1,.int .i64 1,.int .i64 1] 3)).alloc (.cells #[.int .i64 1,.int .i64 1,.int .i64 1] 3)).alloc (.cells #[.slice (some ⟨w.heap.size,0,none⟩) 3 3,.slice (some ⟨w.heap.size+1,0,none⟩) 3 3,.slice (some ⟨w.heap.size+1+1,0,none⟩) 3 3] 22)).alloc (.cells #[.int .i64 0,.int .i64 2,.int .i64 1] 3)).alloc (.cells #[.int .i64 1,.int .i64 0,.int .i64 2] 3)).alloc (.cells #[.int .i64 2,.int .i64 1,.int .i64 0] 3)).alloc (.cells #[.slice (some ⟨w.heap.size+1+1+1+1,0,none⟩) 3 3,.int .i64 1,.slice (some ⟨w.heap.size+1+1+1+1+1,0,none⟩) 3 3,.int .i64 1,.slice (some ⟨w.heap.size+1+1+1+1+1+1,0,none⟩) 3 3,.int .i64 1] 37)).heap[w.heap.size+1+1+1]?=some (.cells #[.slice (some ⟨w.heap.size,0,none⟩) 3 3,.slice (some ⟨w.heap.size+1,0,none⟩) 3 3,.slice (some ⟨w.heap.size+1+1,0,none⟩) 3 3] 22 (0,0)):=by have h:=World.alloc_heap_new (((w.alloc (.cells #[.int .i64 1,.int .i64 1,.int .i64 1] 3)).alloc (.cells #[.int .i64 1,.int .i64 1,.int .i64 1] 3)).alloc (.cells #[.int .i64 1,.int .i64 1,.int .i64 1] 3)) (.cells #[.slice (some ⟨w.heap.size,0,none⟩) 3 3,.slice (some ⟨w.heap.size+1,0,none⟩) 3 3,.slice (some ⟨w.heap.size+1+1,0,none⟩) 3 3] 22);simp only[World.size_alloc] at h;exact (Below.heap_alloc _ _ _ (by simp only[World.size_alloc];omega)).trans ((Below.heap_alloc _ _ _ (by simp only[World.size_alloc];omega)).trans ((Below.heap_alloc _ _ _ (by simp only[World.size_alloc];omega)).trans ((Below.heap_alloc _ _ _ (by simp only[World.size_alloc];omega)).trans (h))))
 have fq4:((((((((w.alloc (.cells #[.int .i64 1,.int .i64 1,.int .i64 1] 3)).alloc (.cells #[.int .i64 1,.int .i64 1,.int .i64 1] 3)).alloc (.cells #[.int .i64 1,.int .i64 1,.int .i64 1] 3)).alloc (.cells #[.slice (some ⟨w.heap.size,0,none⟩) 3 3,.slice (some ⟨w.heap.size+1,0,none⟩) 3 3,.slice (some ⟨w.heap.size+1+1,0,none⟩) 3 3] 22)).alloc (.cells #[.int .i64 0,.int .i64 2,.int .i64 1] 3)).alloc (.cells #[.int .i64 1,.int .i64 0,.int .i64 2] 3)).alloc (.cells #[.int .i64 2,.int .i64 1,.int .i64 0] 3)).alloc (.cells #[.slice (some ⟨w.heap.size+1+1+1+1,0,none⟩) 3 3,.int .i64 1,.slice (some ⟨w.heap.size+1+1+1+1+1,0,none⟩) 3 3,.int .i64 1,.slice (some ⟨w.heap.size+1+1+1+1+1+1,0,none⟩) 3 3,.int .i64 1] 37)).heap[w.heap.size+1+1+1+1]?=some (.cells #[.int .i64 0,.int .i64 2,.int .i64 1] 3 (0,0)):=by have h:=World.alloc_heap_new ((((w.alloc (.cells #[.int .i64 1,.int .i64 1,.int .i64 1] 3)).alloc (.cells #[.int .i64 1,.int .i64 1,.int .i64 1] 3)).alloc (.cells #[.int .i64 1,.int .i64 1,.int .i64 1] 3)).alloc (.cells #[.slice (some ⟨w.heap.size,0,none⟩) 3 3,.slice (some ⟨w.heap.size+1,0,none⟩) 3 3,.slice (some ⟨w.heap.size+1+1,0,none⟩) 3 3] 22)) (.cells #[.int .i64 0,.int .i64 2,.int .i64 1] 3);simp only[World.size_alloc] at h;exact (Below.heap_alloc _ _ _ (by simp only[World.size_alloc];omega)).trans ((Below.heap_alloc _ _ _ (by simp only[World.size_alloc];omega)).trans ((Below.heap_alloc _ _ _ (by simp only[World.size_alloc];omega)).trans (h)))
 have fq5:((((((((w.alloc (.cells #[.int .i64 1,.int .i64 1,.int .i64 1] 3)).alloc (.cells #[.int .i64 1,.int .i64 1,.int .i64 1] 3)).alloc (.cells #[.int .i64 1,.int .i64 1,.int .i64 1] 3)).alloc (.cells #[.slice (some ⟨w.heap.size,0,none⟩) 3 3,.slice (some ⟨w.heap.size+1,0,none⟩) 3 3,.slice (some ⟨w.heap.size+1+1,0,none⟩) 3 3] 22)).alloc (.cells #[.int .i64 0,.int .i64 2,.int .i64 1] 3)).alloc (.cells #[.int .i64 1,.int .i64 0,.int .i64 2] 3)).alloc (.cells #[.int .i64 2,.int .i64 1,.int .i64 0] 3)).alloc (.cells #[.slice (some ⟨w.heap.size+1+1+1+1,0,none⟩) 3 3,.int .i64 1,.slice (some ⟨w.heap.size+1+1+1+1+1,0,none⟩) 3 3,.int .i64 1,.slice (some ⟨w.heap.size+1+1+1+1+1+1,0,none⟩) 3 3,.int .i64 1] 37)).heap[w.heap.size+1+1+1+1+1]?=some (.cells #[.int .i64 1,.int .i64 0,.int .i64 2] 3 (0,0)):=by have h:=World.alloc_heap_new (((((w.alloc (.cells #[.int .i64 1,.int .i64 1,.int .i64 1] 3)).alloc (.cells #[.int .i64 1,.int .i64 1,.int .i64 1] 3)).alloc (.cells #[.int .i64 1,.int .i64 1,.int .i64 1] 3)).alloc (.cells #[.slice (some ⟨w.heap.size,0,none⟩) 3 3,.slice (some ⟨w.heap.size+1,0,none⟩) 3 3,.slice (some ⟨w.heap.size+1+1,0,none⟩) 3 3] 22)).alloc (.cells #[.int .i64 0,.int .i64 2,.int .i64 1] 3)) (.cells #[.int .i64 1,.int .i64 0,.int .i64 2] 3);simp only[World.size_alloc] at h;exact (Below.heap_alloc _ _ _ (by simp only[World.size_alloc];omega)).trans ((Below.heap_alloc _ _ _ (by simp only[World.size_alloc];omega)).trans (h))
 have fq6:((((((((w.alloc (.cells #[.int .i64 1,.int .i64 1,.int .i64 1] 3)).alloc (.cells #[.int .i64 1,.int .i64 1,.int .i64 1] 3)).alloc (.cells #[.int .i64 1,.int .i64 1,.int .i64 1] 3)).alloc (.cells #[.slice (some ⟨w.heap.size,0,none⟩) 3 3,.slice (some ⟨w.heap.size+1,0,none⟩) 3 3,.slice (some ⟨w.heap.size+1+1,0,none⟩) 3 3] 22)).alloc (.cells #[.int .i64 0,.int .i64 2,.int .i64 1] 3)).alloc (.cells #[.int .i64 1,.int .i64 0,.int .i64 2] 3)).alloc (.cells #[.int .i64 2,.int .i64 1,.int .i64 0] 3)).alloc (.cells #[.slice (some ⟨w.heap.size+1+1+1+1,0,none⟩) 3 3,.int .i64 1,.slice (some ⟨w.heap.size+1+1+1+1+1,0,none⟩) 3 3,.int .i64 1,.slice (some ⟨w.heap.size+1+1+1+1+1+1,0,none⟩) 3 3,.int .i64 1] 37)).heap[w.heap.size+1+1+1+1+1+1]?=some (.cells #[.int .i64 2,.int .i64 1,.int .i64 0] 3 (0,0)):=by have h:=World.alloc_heap_new ((((((w.alloc (.cells #[.int .i64 1,.int .i64 1,.int .i64 1] 3)).alloc (.cells #[.int .i64 1,.int .i64 1,.int .i64 1] 3)).alloc (.cells #[.int .i64 1,.int .i64 1,.int .i64 1] 3)).alloc (.cells #[.slice (some ⟨w.heap.size,0,none⟩) 3 3,.slice (some ⟨w.heap.size+1,0,none⟩) 3 3,.slice (some ⟨w.heap.size+1+1,0,none⟩) 3 3] 22)).alloc (.cells #[.int .i64 0,.int .i64 2,.int .i64 1] 3)).alloc (.cells #[.int .i64 1,.int .i64 0,.int .i64 2] 3)) (.cells #[.int .i64 2,.int .i64 1,.int .i64 0] 3);simp only[World.size_alloc] at h;exact (Below.heap_alloc _ _ _ (by simp only[World.size_alloc];omega)).trans (h)
 have fq7:((((((((w.alloc (.cells #[.int .i64 1,.int .i64 1,.int .i64 1] 3)).alloc (.cells #[.int .i64 1,.int .i64 1,.int .i64 1] 3)).alloc (.cells #[.int .i64 1,.int .i64 1,.int .i64 1] 3)).alloc (.cells #[.slice (some ⟨w.heap.size,0,none⟩) 3 3,.slice (some ⟨w.heap.size+1,0,none⟩) 3 3,.slice (some ⟨w.heap.size+1+1,0,none⟩) 3 3] 22)).alloc (.cells #[.int .i64 0,.int .i64 2,.int .i64 1] 3)).alloc (.cells #[.int .i64 1,.int .i64 0,.int .i64 2] 3)).alloc (.cells #[.int .i64 2,.int .i64 1,.int .i64 0] 3)).alloc (.cells #[.slice (some ⟨w.heap.size+1+1+1+1,0,none⟩) 3 3,.int .i64 1,.slice (some ⟨w.heap.size+1+1+1+1+1,0,none⟩) 3 3,.int .i64 1,.slice (some ⟨w.heap.size+1+1+1+1+1+1,0,none⟩) 3 3,.int .i64 1] 37)).heap[w.heap.size+1+1+1+1+1+1+1]?=some (.cells #[.slice (some ⟨w.heap.size+1+1+1+1,0,none⟩) 3 3,.int .i64 1,.slice (some ⟨w.heap.size+1+1+1+1+1,0,none⟩) 3 3,.int .i64 1,.slice (some ⟨w.heap.size+1+1+1+1+1+1,0,none⟩) 3 3,.int .i64 1] 37 (0,0)):=by have h:=World.alloc_heap_new (((((((w.alloc (.cells #[.int .i64 1,.int .i64 1,.int .i64 1] 3)).alloc (.cells #[.int .i64 1,.int .i64 1,.int .i64 1] 3)).alloc (.cells #[.int .i64 1,.int .i64 1,.int .i64 1] 3)).alloc (.cells #[.slice (some ⟨w.heap.size,0,none⟩) 3 3,.slice (some ⟨w.heap.size+1,0,none⟩) 3 3,.slice (some ⟨w.heap.size+1+1,0,none⟩) 3 3] 22)).alloc (.cells #[.int .i64 0,.int .i64 2,.int .i64 1] 3)).alloc (.cells #[.int .i64 1,.int .i64 0,.int .i64 2] 3)).alloc (.cells #[.int .i64 2,.int .i64 1,.int .i64 0] 3)) (.cells #[.slice (some ⟨w.heap.size+1+1+1+1,0,none⟩) 3 3,.int .i64 1,.slice (some ⟨w.heap.size+1+1+1+1+1,0,none⟩) 3 3,.int .i64 1,.slice (some ⟨w.heap.size+1+1+1+1+1+1,0,none⟩) 3 3,.int .i64 1] 37);simp only[World.size_alloc] at h;exact h
 generalize ((((((((w.alloc (.cells #[.int .i64 1,.int .i64 1,.int .i64 1] 3)).alloc (.cells #[.int .i64 1,.int .i64 1,.int .i64 1] 3)).alloc (.cells #[.int .i64 1,.int .i64 1,.int .i64 1] 3)).alloc (.cells #[.slice (some ⟨w.heap.size,0,none⟩) 3 3,.slice (some ⟨w.heap.size+1,0,none⟩) 3 3,.slice (some ⟨w.heap.size+1+1,0,none⟩) 3 3] 22)).alloc (.cells #[.int .i64 0,.int .i64 2,.int .i64 1] 3)).alloc (.cells #[.int .i64 1,.int .i64 0,.int .i64 2] 3)).alloc (.cells #[.int .i64 2,.int .i64 1,.int .i64 0] 3)).alloc (.cells #[.slice (some ⟨w.heap.size+1+1+1+1,0,none⟩) 3 3,.int .i64 1,.slice (some ⟨w.heap.size+1+1+1+1+1,0,none⟩) 3 3,.int .i64 1,.slice (some ⟨w.heap.size+1+1+1+1+1+1,0,none⟩) 3 3,.int .i64 1] 37))=W0 at fsz fB fq0 fq1 fq2 fq3 fq4 fq5 fq6 fq7 ⊢
 have hrc:RC W0 (some ⟨w.heap.size+1+1+1,0,none⟩) 3 ones3:=rc_q3 fq3 (ic_q3 fq0) (ic_q3 fq1) (ic_q3 fq2)
 have htl:TL W0 (some ⟨w.heap.size+1+1+1+1+1+1+1,0,none⟩) 3 3 term3:=tl_q3 fq7 (ic_q3 fq4) (ic_q3 fq5) (ic_q3 fq6)
 obtain ⟨bo,hbo⟩:∃b,w.heap.size+1+1+1=b:=⟨_,rfl⟩
 obtain ⟨bt,hbt⟩:∃b,w.heap.size+1+1+1+1+1+1+1=b:=⟨_,rfl⟩
 have FB:=Lib.hid fB
 clear fsz fq0 fq1 fq2 fq3 fq4 fq5 fq6 fq7 fB
 rw[hbo] at hrc
 rw[hbt] at htl
 have HBI:=Lib.hid (fun W (hb:Below W0.heap.size W0 W)=>birk3_c bo W (hrc.mono hb))
 have HCB:=Lib.hid (fun W (hb:Below W0.heap.size W0 W)=>cbirk3_c bo bt W (hrc.mono hb) (htl.below hb))
 clear hrc htl
 rw[hbt,hbo]
 clear hbt hbo
 go_upto_region 4 with (go_at_call 11;refine (HCY.out _).mono ?_;rintro _ w1 ⟨a1,c1,rfl,hb1⟩)
 have gsz:(w1.alloc (.cells #[.int .i64 3,.int .i64 3,.slice a1 9 c1] 24)).heap.size=w1.heap.size+1:=by simp only[World.size_alloc]
 have gB:Below w1.heap.size w1 (w1.alloc (.cells #[.int .i64 3,.int .i64 3,.slice a1 9 c1] 24)):=(Below.refl _ _).alloc (Nat.le_refl _) _
 have gq0:(w1.alloc (.cells #[.int .i64 3,.int .i64 3,.slice a1 9 c1] 24)).heap[w1.heap.size]?=some (.cells #[.int .i64 3,.int .i64 3,.slice a1 9 c1] 24 (0,0)):=by have h:=World.alloc_heap_new w1 (.cells #[.int .i64 3,.int .i64 3,.slice a1 9 c1] 24);exact h
 generalize (w1.alloc (.cells #[.int .i64 3,.int .i64 3,.slice a1 9 c1] 24))=W1 at gsz gB gq0 ⊢
 have x2:W1.cell? ⟨w1.heap.size,2,none⟩=some (.slice a1 9 c1):=q_cell gq0 2
 have xl:=q_lt gq0
 have HB1:=Lib.hid (keep_trans hb1 gB)
 generalize w1.heap.size=b1 at x2 xl ⊢
 clear gq0 gsz gB hb1
 go_upto_region 5 with (go_at_call 12;refine (HSS.out _).mono ?_;rintro _ w2 ⟨a2,c2,rfl,hrc2,hc6,hb2⟩)
 have hsz:(w2.alloc (.cells #[.int .i64 9,.slice a2 6 c2] 44)).heap.size=w2.heap.size+1:=by simp only[World.size_alloc]
 have hB:Below w2.heap.size w2 (w2.alloc (.cells #[.int .i64 9,.slice a2 6 c2] 44)):=(Below.refl _ _).alloc (Nat.le_refl _) _
 have hq0:(w2.alloc (.cells #[.int .i64 9,.slice a2 6 c2] 44)).heap[w2.heap.size]?=some (.cells #[.int .i64 9,.slice a2 6 c2] 44 (0,0)):=by have h:=World.alloc_heap_new w2 (.cells #[.int .i64 9,.slice a2 6 c2] 44);exact h
 generalize (w2.alloc (.cells #[.int .i64 9,.slice a2 6 c2] 44))=W2 at hsz hB hq0 ⊢
 have y0:W2.cell? ⟨w2.heap.size,0,none⟩=some (.int .i64 9):=q_cell hq0 0
 have y1:W2.cell? ⟨w2.heap.size,1,none⟩=some (.slice a2 6 c2):=q_cell hq0 1
 have yl:=q_lt hq0
 have hB12:=keep_trans hb2 hB
 have x2':=(hB12.cell (p:=⟨b1,2,none⟩) xl).trans x2
 have xl':=Nat.lt_of_lt_of_le xl hB12.size
 have HB2:=Lib.hid (HB1.out.trans (hB12.mono HB1.out.size))
 have HCN:=Lib.hid (fun W (hb:Below W2.heap.size W2 W)=>count6_c a2 c2 W ((hrc2.mono hB).mono hb) hc6)
 generalize w2.heap.size=b2 at y0 y1 yl ⊢
 clear hq0 hsz hB hb2 hrc2 hc6 hB12 x2 xl
 go_upto_region 6 with (go_at_call 7;refine (HBI.out _ HB2.out).mono ?_;rintro _ w3 ⟨a3,c3,rfl,hb3⟩)
 have z0:=(hb3.cell (p:=⟨b2,0,none⟩) yl).trans y0
 have z1:=(hb3.cell (p:=⟨b2,1,none⟩) yl).trans y1
 have zl:=Nat.lt_of_lt_of_le yl hb3.size
 have z2:=(hb3.cell (p:=⟨b1,2,none⟩) xl').trans x2'
 have zl2:=Nat.lt_of_lt_of_le xl' hb3.size
 have HB3:=Lib.hid hb3
 clear y0 y1 yl x2' xl' hb3
 go_upto_region 7 with (go_at_call 13;refine (HCN.out _ HB3.out).mono ?_;rintro _ w4 ⟨rfl,hb4⟩)
 have v2:=(hb4.cell (p:=⟨b1,2,none⟩) zl2).trans z2
 have vl:=Nat.lt_of_lt_of_le zl2 hb4.size
 have HB4:=Lib.hid (HB2.out.trans ((keep_trans HB3.out hb4).mono HB2.out.size))
 clear z0 z1 zl z2 zl2 hb4
 go_wp2_with (go_at_call 8;refine (HCB.out _ HB4.out).mono ?_;rintro _ w5 ⟨rfl,hb5⟩)
 go_ret
 exact ⟨rfl,FB.out.trans ((keep_trans HB4.out hb5).mono FB.out.size)⟩
end
end Go.Proofs.YtpkghjoippcjeaaGreatDoor
