/- Texts Q1 to Q1 of this proof, in one file. -/
import Derived.Test.YtcblpobiefmjmaaGreatW02
import Derived.Test.YtcblpobiefmjmaaGreatW31
namespace Go.Proofs.YtcblpobiefmjmaaGreat
set_option maxRecDepth 100000
set_option maxHeartbeats 16000000
section
open Go Go.RowKit
attribute [local go_sem] over_cell
attribute [local go_sem] Oper.semAt_some
def sameT (A B:List (List Int)):Bool:=decide (A=B)
theorem sameT_ne {A B:List (List Int)} {k:Nat} (h:sameB (A[k]?.getD []) (B[k]?.getD [])=false):sameT A B=false:=by
 simp only[sameT,decide_eq_false_iff_not]
 rintro rfl
 simp[sameB] at h
theorem table1_c (a a':Option Addr) (n n' c c':Nat) (xs ys:List (List Int)) (w:World) (h:RC w a n xs) (h':RC w a' n' ys) :
  Calls Tryz.prog 78 #[.slice a n c,.slice a' n' c'] w fun e w'=>e = .returned (.bool (sameT xs ys))∧Below w.heap.size w w':=by
 have hm:=h.small
 by_cases hl:n=n'
 ·subst hl
  have H:=Lib.hid h
  have H':=Lib.hid h'
  have hl1:=Lib.hid h.len
  have hl2:=Lib.hid h'.len
  clear h h'
  go_enter Tryz.func78,Tryz.ntmps78
  go_wp2
  go_loopw [5] (fun i wr=>∃k:Nat,k≤n∧i = .int .i64 k∧Hid (xs.take k=ys.take k)∧Below w.heap.size w wr) (fun i _=>n - (intOf i).toNat)
  case atStart=>exact ⟨0,by omega,rfl,by simp[Hid],Below.refl _ _⟩
  case round =>
   obtain ⟨k,hk,rfl,hn,hbr⟩:=hrel
   by_cases hlt:k<n
   ·obtain ⟨b,off,a1,n1,c1,rfl,hb,hc,hi1,hc1⟩:=(H.out.mono hbr).2 k hlt
    obtain ⟨b',off',a2,n2,c2,rfl,hb',hc',hi2,hc2⟩:=(H'.out.mono hbr).2 k hlt
    have hli:(k:Int)<(n:Int):=by omega
    have HS:=Lib.hid (fun W (hb:Below wr.heap.size wr W)=>same_c a1 a2 n1 n2 c1 c2 _ _ W (hi1.mono hb) (hi2.mono hb))
    clear hi1 hi2
    cases he:sameB (xs[k]?.getD []) (ys[k]?.getD []) with
    | true =>
     rw[he] at HS
     have he2:Hid (xs[k]?.getD []=ys[k]?.getD []):=by unfold Hid;simpa [sameB] using he
     clear he
     go_wp2_with fail
     refine wp_region_S (fun w'=>∃u,w'=over (wr) u) [] [(0,0),(0,1),(0,2),(0,3),(0,4),(0,5),(0,6),(0,7),(1,8),(0,9)] (by kernel_rfl) (by kernel_rfl) (by exact ⟨_,below_over (by repeat (first|assumption|exact Below.refl _ _|refine keep_drew ?_|refine keep_alloc ?_ _|refine keep_trans ?_ (by assumption)))⟩) ?_
     dsimp only[pickOps,nthOp]
     repeat (first|(refine wpS_skip rfl (fun K hK=>?_);go_big_quiet_op;refine hK _ ?_;clear hK K)|(refine wpS_quiet rfl rfl (fun K hK=>?_);go_big_quiet_op;refine hK _ ?_;clear hK K)|(refine wpS_loud ?_;go_wp2_with (go_at_call 48;refine (HS.out _ (keep_drew (Below.refl _ _))).mono ?_;rintro _ w2 ⟨rfl,hb2⟩);refine ⟨?_,?_⟩;focus (exact ⟨_,below_over (by repeat (first|assumption|exact Below.refl _ _|refine keep_drew ?_|refine keep_alloc ?_ _|refine keep_trans ?_ (by assumption)))⟩)))
     refine wpS_end ?_
     go_wp2
     go_roundw
     case rel =>
      refine ⟨k+1,by omega,by go_num,?_,keep_trans hbr (keep_trans (keep_drew (Below.refl _ _)) hb2)⟩
      unfold Hid
      rw[take_snoc xs [] k (by rw[hl1.out];exact hlt),take_snoc ys [] k (by rw[hl2.out];exact hlt),hn.out,he2.out]
     case measure=>simp[intOf];omega
    | false =>
     rw[he] at HS
     have hE:=Lib.hid (sameT_ne he)
     clear he
     go_wp2_with fail
     refine wp_region_S (fun w'=>∃u,w'=over (wr) u) [] [(0,0),(0,1),(0,2),(0,3),(0,4),(0,5),(0,6),(0,7),(1,8),(0,9)] (by kernel_rfl) (by kernel_rfl) (by exact ⟨_,below_over (by repeat (first|assumption|exact Below.refl _ _|refine keep_drew ?_|refine keep_alloc ?_ _|refine keep_trans ?_ (by assumption)))⟩) ?_
     dsimp only[pickOps,nthOp]
     repeat (first|(refine wpS_skip rfl (fun K hK=>?_);go_big_quiet_op;refine hK _ ?_;clear hK K)|(refine wpS_quiet rfl rfl (fun K hK=>?_);go_big_quiet_op;refine hK _ ?_;clear hK K)|(refine wpS_loud ?_;go_wp2_with (go_at_call 48;refine (HS.out _ (keep_drew (Below.refl _ _))).mono ?_;rintro _ w2 ⟨rfl,hb2⟩);refine ⟨?_,?_⟩;focus (exact ⟨_,below_over (by repeat (first|assumption|exact Below.refl _ _|refine keep_drew ?_|refine keep_alloc ?_ _|refine keep_trans ?_ (by assumption)))⟩)))
     refine wpS_end ?_
     go_wp2
     go_ret
     exact ⟨ret_bool hE.out.symm,keep_trans hbr (keep_trans (keep_drew (Below.refl _ _)) hb2)⟩
   ·go_wp2
    go_ret
    refine ⟨ret_bool ?_,hbr⟩
    have e1:xs.take k=xs:=List.take_of_length_le (by rw[hl1.out];omega)
    have e2:ys.take k=ys:=List.take_of_length_le (by rw[hl2.out];omega)
    have:=hn.out
    rw[e1,e2] at this
    simp[sameT,this]
 ·have hl':((n:Int) != (n':Int))=true:=by simp;omega
  have hE:Hid (sameT xs ys=false):=by
   simp only[Hid,sameT,decide_eq_false_iff_not]
   rintro rfl
   exact hl (h.len.symm.trans h'.len)
  clear h h'
  go_enter Tryz.func78,Tryz.ntmps78
  go_wp2
  go_ret
  exact ⟨ret_bool hE.out.symm,Below.refl _ _⟩
theorem table_c (a a':Option Addr) (n n' c c':Nat) (xs ys:List (List Int)) (w:World) (h:RC w a n xs) (h':RC w a' n' ys) :
  Calls Tryz.prog 28 #[.slice a n c,.slice a' n' c'] w fun e w'=>e = .returned (.bool (sameT xs ys))∧Below w.heap.size w w':=by
 have HT:=Lib.hid (table1_c a a' n n' c c' xs ys w h h')
 clear h h'
 go_enter Tryz.func28,Tryz.ntmps28
 go_wp2_with (go_at_call 78;refine HT.out.mono ?_;rintro _ w1 ⟨rfl,hb1⟩)
 go_ret
 exact ⟨rfl,hb1⟩
def fall:Nat→Nat→Nat
 | _,0=>1
 | n,k+1=>n*fall (n - 1) k
def perms:Nat→List Int→List (List Int)
 | 0,_=>[[]]
 | k+1,U=>U.flatMap fun x=>(perms k (U.erase x)).map (x :: ·)
theorem sum_const (c:Nat):∀U:List Int,(U.map fun _=>c).sum=U.length*c
 | []=>by simp
 | x :: U=>by rw[List.map_cons,List.sum_cons,sum_const c U,List.length_cons,Nat.succ_mul];omega
theorem perms_len:∀(k:Nat) (U:List Int),(perms k U).length=fall U.length k
 | 0,_=>rfl
 | k+1,U=>by
  simp only[perms,fall,List.length_flatMap,List.length_map]
  have:∀x,x∈U→(perms k (U.erase x)).length=fall (U.length - 1) k:=fun x hx=>by
   rw[perms_len k,List.length_erase_of_mem hx]
  rw[List.map_congr_left this,sum_const]
theorem mem_perms:∀(k:Nat) (U S:List Int),S.length=k→S.Nodup→(∀x,x∈S→x∈U)→S∈perms k U
 | 0,U,S,h,_,_=>by
  rw[List.eq_nil_of_length_eq_zero h];simp[perms]
 | k+1,U,x :: S,h,hn,hu=>by
  simp only[perms,List.mem_flatMap,List.mem_map]
  have hn2:=List.nodup_cons.1 hn
  exact ⟨x,hu x List.mem_cons_self,S,mem_perms k (U.erase x) S (by simpa using h) hn2.2 (fun y hy=>(List.mem_erase_of_ne (fun e=>hn2.1 (by rw[← e];exact hy))).2 (hu y (List.mem_cons_of_mem _ hy))),rfl⟩
theorem nodup_len:∀{l m:List (List Int)},l.Nodup→(∀x,x∈l→x∈m)→l.length≤m.length
 | [],m,_,_=>Nat.zero_le _
 | x :: l,m,hn,hs=>by
  have hx:=hs x List.mem_cons_self
  have hn':=List.nodup_cons.1 hn
  have:=nodup_len (l:=l) (m:=m.erase x) hn'.2 (fun y hy=>by
   rw[List.mem_erase_of_ne (fun e:y=x=>hn'.1 (by rw[← e];exact hy))]
   exact hs y (List.mem_cons_of_mem _ hy))
  rw[List.length_erase_of_mem hx] at this
  have:0<m.length:=List.length_pos_of_mem hx
  simp only[List.length_cons]
  omega
theorem found_paths {C:Cst} (he:Even C) (hf:Fine C):∀(n:Nat) (P:List Int),fuelP C P=n→OkP C P→Rch C P→∃Ss:List (List Int),found C P=Ss.map (fillP C)∧Ss.Pairwise (fun S T=>val C.O.length S<val C.O.length T)∧∀S,S∈Ss→SolP C S∧val C.O.length P<val C.O.length S:=by
 intro n
 induction n using Nat.strongRecOn with
 | _ n ih =>
  intro P hn ho hr
  rw[found_step he hf ho]
  cases hP:nextP C P with
  | none=>exact ⟨[],rfl,List.Pairwise.nil,fun S h=>by cases h⟩
  | some P' =>
   have hlt:=fuelP_lt he hf ho hP
   have hok:=nextP_ok he hf ho hP
   have hv:=nextP_val he hf ho hP
   have hr':=rch_next hr hP
   obtain ⟨Ss,h1,h2,h3⟩:=ih (fuelP C P') (by omega) P' rfl hok hr'
   simp only
   by_cases hc:(P'.length==C.O.length)=true∧wrongB C P'=false
   ·rw[if_pos hc]
    have hl:P'.length=C.O.length:=by simpa using hc.1
    refine ⟨P' :: Ss,by rw[h1];rfl,List.pairwise_cons.2 ⟨fun S hS=>(h3 S hS).2,h2⟩,fun S hS=>?_⟩
    rcases List.mem_cons.1 hS with rfl|hS
    ·refine ⟨⟨hok,hl,fun k hk=>?_⟩,hv⟩
     rcases Nat.lt_or_ge k S.length with h4|h4
     ·exact hr' k h4
     ·rw[List.take_of_length_le h4];exact hc.2
    ·exact ⟨(h3 S hS).1,by have:=(h3 S hS).2;omega⟩
   ·rw[if_neg hc]
    exact ⟨Ss,by rw[h1];rfl,h2,fun S hS=>⟨(h3 S hS).1,by have:=(h3 S hS).2;omega⟩⟩
end
end Go.Proofs.YtcblpobiefmjmaaGreat
