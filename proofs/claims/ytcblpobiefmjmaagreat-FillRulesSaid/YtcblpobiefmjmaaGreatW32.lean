/- Texts Q1 to Q1 of this proof, in one file. -/
import Derived.Test.YtcblpobiefmjmaaGreatW02
import Derived.Test.YtcblpobiefmjmaaGreatW31
namespace Go.Proofs.YtcblpobiefmjmaaGreat
set_option maxRecDepth 100000
set_option maxHeartbeats 16000000
section
open Go Go.RowKit
attribute [local go_sem] over_cell
attribute [local go_sem] Oper.semAt_some
def sameT (A B:List (List Int)):Bool:=decide (A=B)
theorem sameT_ne {A B:List (List Int)} {k:Nat} (h:sameB (A[k]?.getD []) (B[k]?.getD [])=false):sameT A B=false:=by
 simp only[sameT,decide_eq_false_iff_not]
 rintro rfl
 simp[sameB] at h
theorem table1_c (a a':Option Addr) (n n' c c':Nat) (xs ys:List (List Int)) (w:World) (h:RC w a n xs) (h':RC w a' n' ys) :
  Calls Tryz.prog 78 #[.slice a n c,.slice a' n' c'] w fun e w'=>e = .returned (.bool (sameT xs ys))∧Below w.heap.size w w':=by
 have hm:=h.small
 by_cases hl:n=n'
 ·subst hl
  have H:=Lib.hid h
  have H':=Lib.hid h'
  have hl1:=Lib.hid h.len
  have hl2:=Lib.hid h'.len
  clear h h'
  go_enter Tryz.func78,Tryz.ntmps78
  go_wp2
  go_loopw [5] (fun i wr=>∃k:Nat,k≤n∧i = .int .i64 k∧Hid (xs.take k=ys.take k)∧Below w.heap.size w wr) (fun i _=>n - (intOf i).toNat)
  case atStart=>exact ⟨0,by omega,rfl,by simp[Hid],Below.refl _ _⟩
  case round =>
   obtain ⟨k,hk,rfl,hn,hbr⟩:=hrel
   by_cases hlt:k<n
   ·obtain ⟨b,off,a1,n1,c1,rfl,hb,hc,hi1,hc1⟩:=(H.out.mono hbr).2 k hlt
    obtain ⟨b',off',a2,n2,c2,rfl,hb',hc',hi2,hc2⟩:=(H'.out.mono hbr).2 k hlt
    have hli:(k:Int)<(n:Int):=by omega
    have HS:=Lib.hid (fun W (hb:Below wr.heap.size wr W)=>same_c a1 a2 n1 n2 c1 c2 _ _ W (hi1.mono hb) (hi2.mono hb))
    clear hi1 hi2
    cases he:sameB (xs[k]?.getD []) (ys[k]?.getD []) with
    | true =>
     rw[he] at HS
     have he2:Hid (xs[k]?.getD []=ys[k]?.getD []):=by unfold Hid;simpa [sameB] using he
     clear he
     go_wp2_with fail
     refine wp_region_S (fun w'=>∃u,w'=over (wr) u) [] [(0,0),(0,1),(0,2),(0,3),(0,4),(0,5),(0,6),(0,7),(1,8),(0,9)] (by kernel_rfl) (by kernel_rfl) (by exact ⟨_,below_over (by repeat (first|assumption|exact Below.refl _ _|refine keep_drew ?_|refine keep_alloc ?_ _|refine keep_trans ?_ (by assumption)))⟩) ?_
     dsimp only[pickOps,nthOp]
     repeat (first|(refine wpS_skip rfl (fun K hK=>?_);go_big_quiet_op;refine hK _ ?_;clear hK K)|(refine wpS_quiet rfl rfl (fun K hK=>?_);go_big_quiet_op;refine hK _ ?_;clear hK K)|(refine wpS_loud ?_;go_wp2_with (go_at_call 48;refine (HS.out _ (keep_drew (Below.refl _ _))).mono ?_;rintro _ w2 ⟨rfl,hb2⟩);refine ⟨?_,?_⟩;focus (exact ⟨_,below_over (by repeat (first|assumption|exact Below.refl _ _|refine keep_drew ?_|refine keep_alloc ?_ _|refine keep_trans ?_ (by assumption)))⟩)))
     refine wpS_end ?_
     go_wp2
     go_roundw
     case rel =>
      refine ⟨k+1,by omega,by go_num,?_,keep_trans hbr (keep_trans (keep_drew (Below.refl _ _)) hb2)⟩
      unfold Hid
      rw[take_snoc xs [] k (by rw[hl1.out];exact hlt),take_snoc ys [] k (by rw[hl2.out];exact hlt),hn.out,he2.out]
     case measure=>simp[intOf];omega
    | false =>
     rw[he] at HS
     have hE:=Lib.hid (sameT_ne he)
     clear he
     go_wp2_with fail
     refine wp_region_S (fun w'=>∃u,w'=over (wr) u) [] [(0,0),(0,1),(0,2),(0,3),(0,4),(0,5),(0,6),(0,7),(1,8),(0,9)] (by kernel_rfl) (by kernel_rfl) (by exact ⟨_,below_over (by repeat (first|assumption|exact Below.refl _ _|refine keep_drew ?_|refine keep_alloc ?_ _|refine keep_trans ?_ (by assumption)))⟩) ?_
     dsimp only[pickOps,nthOp]
     repeat (first|(refine wpS_skip rfl (fun K hK=>?_);go_big_quiet_op;refine hK _ ?_;clear hK K)|(refine wpS_quiet rfl rfl (fun K hK=>?_);go_big_quiet_op;refine hK _ ?_;clear hK K)|(refine wpS_loud ?_;go_wp2_with (go_at_call 48;refine (HS.out _ (keep_drew (Below.refl _ _))).mono ?_;rintro _ w2 ⟨rfl,hb2⟩);refine ⟨?_,?_⟩;focus (exact ⟨_,below_over (by repeat (first|assumption|exact Below.refl _ _|refine keep_drew ?_|refine keep_alloc ?_ _|refine keep_trans ?_ (by assumption)))⟩)))
     refine wpS_end ?_
     go_wp2
     go_ret
     exact ⟨ret_bool hE.out.symm,keep_trans hbr (keep_trans (keep_drew (Below.refl _ _)) hb2)⟩
   ·go_wp2
    go_ret
    refine ⟨ret_bool ?_,hbr⟩
    have e1:xs.take k=xs:=List.take_of_length_le (by rw[hl1.out];omega)
    have e2:ys.take k=ys:=List.take_of_length_le (by rw[hl2.out];omega)
    have:=hn.out
    rw[e1,e2] at this
    simp[sameT,this]
 ·have hl':((n:Int) != (n':Int))=true:=by simp;omega
  have hE:Hid (sameT xs ys=false):=by
   simp only[Hid,sameT,decide_eq_false_iff_not]
   rintro rfl
   exact hl (h.len.symm.trans h'.len)
  clear h h'
  go_enter Tryz.func78,Tryz.ntmps78
  go_wp2
  go_ret
  exact ⟨ret_bool hE.out.symm,Below.refl _ _⟩
theorem table_c (a a':Option Addr) (n n' c c':Nat) (xs ys:List (List Int)) (w:World) (h:RC w a n xs) (h':RC w a' n' ys) :
  Calls Tryz.prog 28 #[.slice a n c,.slice a' n' c'] w fun e w'=>e = .returned (.bool (sameT xs ys))∧Below w.heap.size w w':=by
 have HT:=Lib.hid (table1_c a a' n n' c c' xs ys w h h')
 clear h h'
 go_enter Tryz.func28,Tryz.ntmps28
 go_wp2_with (go_at_call 78;refine HT.out.mono ?_;rintro _ w1 ⟨rfl,hb1⟩)
 go_ret
 exact ⟨rfl,hb1⟩
end
end Go.Proofs.YtcblpobiefmjmaaGreat
