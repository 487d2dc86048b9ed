/- Texts J106 to J106 of this proof, in one file. -/
import Derived.Test.YtmfpdakaeagdpaaGreatW05
import Derived.Test.YtmfpdakaeagdpaaGreatW07
import Derived.Test.YtmfpdakaeagdpaaGreatW08
namespace Go.Proofs.YtmfpdakaeagdpaaGreat
set_option maxRecDepth 100000
set_option maxHeartbeats 16000000
section
open Go Go.RowKit
attribute [local go_sem] over_cell
attribute [local go_sem] Oper.semAt_some
theorem rmeet_c (r C r2 C2:Int) (a:Option Addr) (n c:Nat) (cs:List Int) (a2:Option Addr) (n2 c2:Nat) (ds:List Int) (w:World) (h:IC w a n cs) (h2:IC w a2 n2 ds) (hnn:n≤n2) (hn:n≤65536) :
  Calls Tryz.prog 47 #[.agg #[.int .i64 r,.int .i64 C,.slice a n c],.agg #[.int .i64 r2,.int .i64 C2,.slice a2 n2 c2]] w fun e w'=>e = .returned (MeetV cs ds)∧Below w.heap.size w w':=by
 obtain ⟨V,hV⟩:∃V,V=MeetV cs ds:=⟨_,rfl⟩
 rw[← hV]
 have HV:=Lib.hid hV
 have HL:=Lib.hid h.len
 clear hV
 go_enter Tryz.func47,Tryz.ntmps47
 go_upto_region 1 with fail
 have fsz:((w.alloc (.cells #[.int .i64 r,.int .i64 C,.slice a n c] 24)).alloc (.cells #[.int .i64 r2,.int .i64 C2,.slice a2 n2 c2] 24)).heap.size=w.heap.size+2:=by simp only[World.size_alloc] <;> omega
 have fB:Below w.heap.size w ((w.alloc (.cells #[.int .i64 r,.int .i64 C,.slice a n c] 24)).alloc (.cells #[.int .i64 r2,.int .i64 C2,.slice a2 n2 c2] 24)):=((Below.refl _ _).alloc (Nat.le_refl _) _).alloc (by simp only[World.size_alloc];omega) _
 have fq0:((w.alloc (.cells #[.int .i64 r,.int .i64 C,.slice a n c] 24)).alloc (.cells #[.int .i64 r2,.int .i64 C2,.slice a2 n2 c2] 24)).heap[w.heap.size]?=some (.cells #[.int .i64 r,.int .i64 C,.slice a n c] 24 (0,0)):=by have h:=World.alloc_heap_new w (.cells #[.int .i64 r,.int .i64 C,.slice a n c] 24);exact (Below.heap_alloc _ _ _ (by simp only[World.size_alloc];omega)).trans (h)
 have fq1:((w.alloc (.cells #[.int .i64 r,.int .i64 C,.slice a n c] 24)).alloc (.cells #[.int .i64 r2,.int .i64 C2,.slice a2 n2 c2] 24)).heap[w.heap.size+1]?=some (.cells #[.int .i64 r2,.int .i64 C2,.slice a2 n2 c2] 24 (0,0)):=by have h:=World.alloc_heap_new (w.alloc (.cells #[.int .i64 r,.int .i64 C,.slice a n c] 24)) (.cells #[.int .i64 r2,.int .i64 C2,.slice a2 n2 c2] 24);simp only[World.size_alloc] at h;exact h
 generalize ((w.alloc (.cells #[.int .i64 r,.int .i64 C,.slice a n c] 24)).alloc (.cells #[.int .i64 r2,.int .i64 C2,.slice a2 n2 c2] 24))=W0 at fsz fB fq0 fq1 ⊢
 have H1:=Lib.hid (h.mono fB)
 have H2:=Lib.hid (h2.mono fB)
 have Q0:=Lib.hid fq0
 have Q1:=Lib.hid fq1
 have FB:=Lib.hid fB
 clear fq0 fq1 fB fsz h h2
 go_wp2_with fail
 go_loopw [7,8] (fun s7 _ wr=>∃k:Nat,k≤n∧s7 = .int .i64 (k:Int)∧Hid (NoMeet cs ds k)∧Below W0.heap.size W0 wr) (fun s7 _ _=>n - (intOf s7).toNat)
 case atStart=>exact ⟨0,by omega,rfl,fun i hi=>absurd hi (by omega),Below.refl _ _⟩
 case round =>
  obtain ⟨k,hk,rfl,hno,hbr⟩:=hrel
  obtain ⟨x0,x1,x2,xl⟩:=c3_of (keepq hbr Q0.out)
  by_cases hlt:k<n
  ·have hki:(k:Int)<(n:Int):=by omega
   obtain ⟨b,off,rfl,hb,hc⟩:=H1.out.2 k hlt
   obtain ⟨b2,off2,rfl,hb2,hc2⟩:=H2.out.2 k (by omega)
   go_wp2_with fail
   go_loopw [8] (fun s8 wr=>∃j:Nat,j≤k∧s8 = .int .i64 (j:Int)∧Hid (∀i,i<j→pairEq cs ds i k=false)∧Below W0.heap.size W0 wr) (fun s8 _=>k - (intOf s8).toNat)
   case atStart=>exact ⟨0,by omega,rfl,fun i hi=>absurd hi (by omega),hbr⟩
   case round =>
    obtain ⟨j,hj,rfl,hp,hbr⟩:=hrel
    clear x0 x1 x2 xl
    obtain ⟨x0,x1,x2,xl⟩:=c3_of (keepq hbr Q0.out)
    obtain ⟨y0,y1,y2,yl⟩:=c3_of (keepq hbr Q1.out)
    by_cases hlt2:j<k
    ·have hji:(j:Int)<(k:Int):=by omega
     have hjn:(j:Int)<(n:Int):=by omega
     have hjn2:(j:Int)<(n2:Int):=by omega
     have hkn2:(k:Int)<(n2:Int):=by omega
     obtain ⟨_,_,e1,_,hd⟩:=H1.out.2 j (by omega)
     cases e1
     obtain ⟨_,_,e2,_,hd2⟩:=H2.out.2 j (by omega)
     cases e2
     have g1:=((bcell hbr).1 _ _ hb).trans hc
     have g2:=((bcell hbr).1 _ _ hb2).trans hc2
     have g3:=((bcell hbr).1 _ _ hb).trans hd
     have g4:=((bcell hbr).1 _ _ hb2).trans hd2
     have hl1:=Nat.lt_of_lt_of_le hb hbr.size
     have hl2:=Nat.lt_of_lt_of_le hb2 hbr.size
     have HE:Hid (pairEq cs ds j k=((cs[j]?.getD 0==cs[k]?.getD 0)&&(ds[j]?.getD 0==ds[k]?.getD 0))):=rfl
     generalize cs[j]?.getD 0=p at g3 HE
     generalize cs[k]?.getD 0=q at g1 HE
     generalize ds[j]?.getD 0=p2 at g4 HE
     generalize ds[k]?.getD 0=q2 at g2 HE
     obtain ⟨b1,e1⟩:∃b1,(p==q)=b1:=⟨_,rfl⟩
     obtain ⟨b3,e3⟩:∃b3,(p2==q2)=b3:=⟨_,rfl⟩
     rw[e1,e3] at HE
     clear hc hc2 hd hd2
     cases b1 with
     | false =>
      have HN:Hid (∀i,i<j+1→pairEq cs ds i k=false):=fun i hi=>by
       by_cases e:i=j
       ·rw[e,HE.out];rfl
       ·exact hp.out i (by omega)
      go_wp2_with fail
      refine wp_region_S (fun w'=>∃u,w'=over (wr) u) [] [(0,0),(0,1),(0,2),(0,3),(0,4),(0,5),(0,6),(0,7),(0,8),(0,9),(0,10),(0,11),(0,12),(0,13),(0,14),(0,15),(0,16),(0,17),(0,18),(0,19),(0,20),(0,21),(0,22),(0,23)] (by kernel_rfl) (by kernel_rfl) (by exact ⟨_,below_over (by repeat (first|assumption|exact Below.refl _ _|refine keep_drew ?_|refine keep_alloc ?_ _|refine keep_trans ?_ (by assumption)))⟩) ?_
      dsimp only[pickOps,nthOp]
      repeat (first|(refine wpS_skip rfl (fun K hK=>?_);go_big_quiet_op;refine hK _ ?_;clear hK K)|(refine wpS_quiet rfl rfl (fun K hK=>?_);go_big_quiet_op;refine hK _ ?_;clear hK K))
      refine wpS_end ?_
      go_wp2_with fail
      go_roundw
      case rel=>exact ⟨j+1,by omega,by go_num,HN,hbr.drew⟩
      case measure=>simp[intOf];omega
     | true =>
      cases b3 with
      | false =>
       have HN:Hid (∀i,i<j+1→pairEq cs ds i k=false):=fun i hi=>by
        by_cases e:i=j
        ·rw[e,HE.out];rfl
        ·exact hp.out i (by omega)
       go_wp2_with fail
       refine wp_region_S (fun w'=>∃u,w'=over (wr) u) [] [(0,0),(0,1),(0,2),(0,3),(0,4),(0,5),(0,6),(0,7),(0,8),(0,9),(0,10),(0,11),(0,12),(0,13),(0,14),(0,15),(0,16),(0,17),(0,18),(0,19),(0,20),(0,21),(0,22),(0,23)] (by kernel_rfl) (by kernel_rfl) (by exact ⟨_,below_over (by repeat (first|assumption|exact Below.refl _ _|refine keep_drew ?_|refine keep_alloc ?_ _|refine keep_trans ?_ (by assumption)))⟩) ?_
       dsimp only[pickOps,nthOp]
       repeat (first|(refine wpS_skip rfl (fun K hK=>?_);go_big_quiet_op;refine hK _ ?_;clear hK K)|(refine wpS_quiet rfl rfl (fun K hK=>?_);go_big_quiet_op;refine hK _ ?_;clear hK K))
       refine wpS_end ?_
       go_wp2_with fail
       go_roundw
       case rel=>exact ⟨j+1,by omega,by go_num,HN,hbr.drew⟩
       case measure=>simp[intOf];omega
      | true =>
       have hmeet:meetAt cs ds k=some j:=find_range hlt2 (fun i hi=>hp.out i hi) (by rw[HE.out];rfl)
       have hVV:V = .tuple #[.int .i64 (j:Int),.int .i64 (k:Int),.bool true]:=by
        rw[HV.out];unfold MeetV;rw[meet_found (by rw[HL.out];exact hlt) hno.out hmeet]
       have HVV:=Lib.hid hVV
       clear hmeet hVV
       go_wp2_with fail
       refine wp_region_S (fun w'=>∃u,w'=over (wr) u) [] [(0,0),(0,1),(0,2),(0,3),(0,4),(0,5),(0,6),(0,7),(0,8),(0,9),(0,10),(0,11),(0,12),(0,13),(0,14),(0,15),(0,16),(0,17),(0,18),(0,19),(0,20),(0,21),(0,22),(0,23)] (by kernel_rfl) (by kernel_rfl) (by exact ⟨_,below_over (by repeat (first|assumption|exact Below.refl _ _|refine keep_drew ?_|refine keep_alloc ?_ _|refine keep_trans ?_ (by assumption)))⟩) ?_
       dsimp only[pickOps,nthOp]
       repeat (first|(refine wpS_skip rfl (fun K hK=>?_);go_big_quiet_op;refine hK _ ?_;clear hK K)|(refine wpS_quiet rfl rfl (fun K hK=>?_);go_big_quiet_op;refine hK _ ?_;clear hK K))
       refine wpS_end ?_
       go_wp2_with fail
       refine bodyPost_ret (v := .tuple #[.int .i64 (j:Int),.int .i64 (k:Int),.bool true]) ?_ rfl ⟨by rw[HVV.out],keep_trans FB.out hbr.drew⟩
       simp[results,Tryz.f47,go_sem]
    ·have e:j=k:=by omega
     have HN:Hid (NoMeet cs ds (k+1)):=noMeet_next hno.out (find_none (fun i hi=>hp.out i (by omega)))
     have hnj:¬(j:Int)<(k:Int):=by omega
     clear e
     go_wp2_with fail
     go_roundw
     case rel=>exact ⟨k+1,by omega,by go_num,HN,hbr⟩
     case measure=>simp[intOf];omega
  ·have e:k=n:=by omega
   have hnk:¬(k:Int)<(n:Int):=by omega
   have hVV:V = .tuple #[.int .i64 0,.int .i64 0,.bool false]:=by
    have h9:=hno.out
    rw[e,← HL.out] at h9
    rw[HV.out];unfold MeetV;rw[noMeet_end h9]
   have HVV:=Lib.hid hVV
   clear hVV e
   go_wp2_with fail
   refine bodyPost_ret (v := .tuple #[.int .i64 0,.int .i64 0,.bool false]) ?_ rfl ⟨by rw[HVV.out],keep_trans FB.out hbr⟩
   simp[results,Tryz.f47,go_sem]
end
end Go.Proofs.YtmfpdakaeagdpaaGreat
