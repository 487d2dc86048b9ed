/- Texts J205 to J208 of this proof, in one file. -/
import Derived.Test.YtpkghjoippcjeaaGreatDoorW01
import Derived.Test.YtpkghjoippcjeaaGreatDoorW39
import Derived.Test.YtpkghjoippcjeaaGreatDoorW64
import Derived.Shelf.Slices.CompactI
import Derived.Shelf.Strconv.Itoa3
import Derived.Shelf.Strings.OnBuilder
import Derived.Shelf.Lays2
import Derived.Lib.OwnBridge
import Derived.Lib.SlKeysI
namespace Go.Proofs.YtpkghjoippcjeaaGreatDoor
set_option maxRecDepth 100000
set_option maxHeartbeats 16000000
section
open Go Go.RowKit
attribute [local go_sem] over_cell
attribute [local go_sem] Oper.semAt_some
section
variable {n:Nat} {m:Nat→Nat→Int} {c c':Nat→Int} {s:Nat→Bool} {row i k:Nat}
theorem KuWon.rest (W:KuWon n m c s row c') (hi:i<n) (hne:i≠row) (h:c i = -1):c' i = -1:=by
 rcases W.oth i hi hne with h1|⟨j,j',_,_,h1,_⟩
 ·rw[h1,h]
 ·rw[h] at h1;omega
theorem KuWon.has (W:KuWon n m c s row c') (hi:i<n) (h:c i ≠ -1):c' i ≠ -1:=by
 by_cases e:i=row
 ·subst e
  obtain ⟨j,_,h1,_⟩:=W.own
  rw[h1];omega
 ·rcases W.oth i hi e with h1|⟨j,j',_,_,_,h1,_⟩
  ·rw[h1];exact h
  ·rw[h1];omega
theorem KuWon.own' (W:KuWon n m c s row c'):c' row ≠ -1:=by
 obtain ⟨j,_,h1,_⟩:=W.own
 rw[h1];omega
theorem ku_swap (F:MtG n m c) (hi:i<n) (hk:k<n) (hik:k≠i) {j:Nat} (hj:j<n) (hck:c k=(j:Int)) (hm:m i j≠0):MtG n m (updF (updF c i (j:Int)) k (-1)):=by
 have e:updF (updF c i (j:Int)) k (-1)=updF (updF c k (-1)) i (j:Int):=by
  funext x
  unfold updF
  by_cases e1:x=k
  ·rw[if_pos e1,if_neg (by omega),if_pos e1]
  ·rw[if_neg e1]
   by_cases e2:x=i
   ·rw[if_pos e2,if_pos e2]
   ·rw[if_neg e2,if_neg e2,if_neg e1]
 rw[e]
 refine (F.gone hk).put hi hj hm (fun i' hi' e=>?_)
 by_cases e1:i'=k
 ·subst e1;rw[updF_same] at e;omega
 ·rw[updF_other _ _ e1] at e
  exact e1 (F.inj i' k hi' hk (by rw[e,hck]) (by rw[e];omega))
end
structure Full (n:Nat) (m:Nat→Nat→Int) (c:Nat→Int):Prop where
 mt:MtG n m c
 all:∀i,i<n→c i ≠ -1
theorem Full.num {n:Nat} {m:Nat→Nat→Int} {c:Nat→Int} (F:Full n m c) {i:Nat} (hi:i<n):∃j:Nat,j<n∧c i=(j:Int)∧m i j≠0:=(F.mt.rng i hi).resolve_left (F.all i hi)
theorem Full.per {n:Nat} {ls:List (List Int)} {col:List Int} (F:Full n (entL ls) (colF col)) (hl:col.length=n):PerN n col∧∀i,i<n→entL ls i (permF col i)≠0:=by
 refine ⟨⟨hl,fun i hi=>?_,fun i j hi hj e=>F.mt.inj i j hi hj e (F.all i hi)⟩,fun i hi=>?_⟩
 ·obtain ⟨j,h1,h2,_⟩:=F.num hi
  have h2':col[i]?.getD 0=(j:Int):=h2
  omega
 ·obtain ⟨j,h1,h2,h3⟩:=F.num hi
  have h2':col[i]?.getD 0=(j:Int):=h2
  unfold permF
  rw[h2',Int.toNat_natCast];exact h3
theorem Full.find {n:Nat} {m:Nat→Nat→Int} {c:Nat→Int} (F:Full n m c) {j:Nat} (hj:j<n):∃k,k<n∧c k=(j:Int):=by
 have h:∀i,∃f:Nat,i<n→f<n∧c i=(f:Int):=fun i=>by
  by_cases hi:i<n
  ·obtain ⟨f,h1,h2,_⟩:=F.num hi;exact ⟨f,fun _=>⟨h1,h2⟩⟩
  ·exact ⟨0,fun h=>absurd h hi⟩
 have hf:=fun i=>Classical.choose_spec (h i)
 generalize (fun i=>Classical.choose (h i))=f at hf
 obtain ⟨k,hk,e⟩:=inj_onto (n:=n) (f:=fun i=>Classical.choose (h i)) (fun i hi=>(Classical.choose_spec (h i) hi).1) (fun i i' hi hi' e=>F.mt.inj i i' hi hi' (by rw[(Classical.choose_spec (h i) hi).2,(Classical.choose_spec (h i') hi').2];exact congrArg (fun x:Nat=>(x:Int)) e) (F.all i hi)) hj
 exact ⟨k,hk,by rw[(Classical.choose_spec (h k) hk).2];exact congrArg (fun x:Nat=>(x:Int)) e⟩
theorem made_fal (n:Nat):(madeCells (Value.bool false).cells (n*1)).toList=(List.replicate n false).map Value.bool:=by
 apply List.ext_getElem?
 intro i
 by_cases h:i<n
 ·simp[madeCells,h,Value.cells,Nat.mod_one]
 ·simp[madeCells,h]
theorem senF_false (n:Nat):senF (List.replicate n false)=fun _=>false:=by
 funext k
 show (List.replicate n false)[k]?.getD false=false
 rw[List.getElem?_replicate]
 split <;> rfl
theorem OI.tak {W:World} {B g n cap:Nat} {xs:List Int} (h:OI W B g n cap xs) {m:Nat} (hm:m≤n) (hn:n≤17592186044416):IC W (some ⟨g,0,none⟩) m (xs.take m) :=
 ⟨⟨by rw[List.length_take,h.len];omega,by omega⟩,fun k hk=>⟨g,0,rfl,h.blk.2,by rw[Nat.zero_add,List.getElem?_take,if_pos hk];exact (h.at (by omega)).1⟩⟩
theorem idx_full {n:Nat} {ls:List (List Int)} {col:List Int} (F:Full n (entL ls) (colF col)) {j:Nat} (hj:j<n):∃k,k<n∧colF col k=(j:Int)∧idxP (fun k=>(j:Int)==col[k]?.getD 0) n=(k:Int):=by
 obtain ⟨k0,hk0,e0⟩:=F.find hj
 unfold idxP
 cases h:(List.range n).find? (fun k=>(j:Int)==col[k]?.getD 0) with
 | none =>
  rw[List.find?_eq_none] at h
  have:=h k0 (List.mem_range.2 hk0)
  have e0':col[k0]?.getD 0=(j:Int):=e0
  rw[e0'] at this
  simp at this
 | some k =>
  have h1:=List.mem_range.1 (List.mem_of_find?_eq_some h)
  have h2:=List.find?_some h
  refine ⟨k,h1,?_,rfl⟩
  have h3:(j:Int)=col[k]?.getD 0:=by simpa using h2
  exact h3.symm
def LeastO (w:World) (n:Nat) (ls:List (List Int)) (e:Ending) (w':World):Prop :=
 ∃(g cc:Nat) (col:List Int),e = .returned (.slice (some ⟨g,0,none⟩) n cc)∧OI w' w.heap.size g n cc col∧PerN n col∧(∀i,i<n→entL ls i (permF col i)≠0)∧Below w.heap.size w w'
theorem least_c (n:Nat) (h2:2≤n) (h5:n≤5) (aM:Option Addr) (cM:Nat) (ls:List (List Int)) (w:World) (h:RC w aM n ls) (hrow:∀i,i<n→(ls[i]?.getD []).length=n)
  (P:Nat→Nat) (hP:∀i,i<n→P i<n) (hPi:∀i j,i<n→j<n→P i=P j→i=j) (hPm:∀i,i<n→entL ls i (P i)≠0) :
  Calls Tryz.prog 16 #[.slice aM n cM] w (LeastO w n ls):=by
 obtain ⟨i0,hi,hz0,hz1,hz2⟩:=info_parts infoBool1
 have HR:=Lib.hid (fun a c W (h:IC W a 1 [-1])=>repeat_c n h2 h5 (-1) a c W h)
 have HNO:Hid (∀(row:Nat) (c:Nat→Int) (s':Nat→Bool),row<n→c row = -1→¬KuLost n (entL ls) c (fun _=>false) row 0 s'):=fun row c s' hr hc L=>L.no hP hPi hPm hr hc
 have HRC:=Lib.hid h
 have HROW:=Lib.hid hrow
 have HGR:Hid (∀b gc cc gs cs fixed row col s W,w.heap.size≤b→b≠gc→b≠gs→gc≠gs→row<n→fixed≤16→GrW ⟨w,b,aM,cM,n,gc,cc,ls⟩ col W→BI W w.heap.size gs n cs s→MtG n (entL ls) (colF col) →
   Calls Tryz.prog 39 #[.pointer (some ⟨b,0,none⟩),.int .i64 ((row:Nat):Int),.int .i64 ((fixed:Nat):Int),.slice (some ⟨gs,0,none⟩) n cs] W (GrQ ⟨w,b,aM,cM,n,gc,cc,ls⟩ gs cs row fixed col s W)) :=
  fun b gc cc gs cs fixed row col s W a1 a2 a3 a4 a5 a6 a7 a8 a9=>grow_c ⟨w,b,aM,cM,n,gc,cc,ls⟩ ⟨h,hrow,a1,a2,show n≤16 by omega⟩ gs cs fixed a3 a4 (fresh s+1) row col s W a5 a6 a7 a8 a9 (Nat.lt_succ_self _)
 obtain ⟨bM,oM,_,_,_,haM,_⟩:=h.2 0 (by omega)
 subst haM
 clear hP hPi hPm h hrow
 go_enter Tryz.func16,Tryz.ntmps16
 go_upto_region 3 with (first|(go_at_call 38;refine (HR.out _ _ _ (IC.new1 _ _ _)).mono ?_;rintro _ w1 ⟨g,rfl,hO1,hb1⟩)|fail)
 have hk1:Below w.heap.size w w1:=keep_trans (keep_alloc (Below.refl _ _) _) hb1
 have hO1':=hO1.base (show w.heap.size≤_ by simp)
 have hgl:=hO1.blk
 have fsz:(w1.alloc (.cells #[.slice (some ⟨bM,oM,none⟩) n cM,.slice (some ⟨g,0,none⟩) n n] 71)).heap.size=w1.heap.size+1:=by simp only[World.size_alloc]
 have fB:Below w1.heap.size w1 (w1.alloc (.cells #[.slice (some ⟨bM,oM,none⟩) n cM,.slice (some ⟨g,0,none⟩) n n] 71)):=(Below.refl _ _).alloc (Nat.le_refl _) _
 have fq0:(w1.alloc (.cells #[.slice (some ⟨bM,oM,none⟩) n cM,.slice (some ⟨g,0,none⟩) n n] 71)).heap[w1.heap.size]?=some (.cells #[.slice (some ⟨bM,oM,none⟩) n cM,.slice (some ⟨g,0,none⟩) n n] 71 (0,0)):=by have h:=World.alloc_heap_new w1 (.cells #[.slice (some ⟨bM,oM,none⟩) n cM,.slice (some ⟨g,0,none⟩) n n] 71);exact h
 generalize (w1.alloc (.cells #[.slice (some ⟨bM,oM,none⟩) n cM,.slice (some ⟨g,0,none⟩) n n] 71))=W2 at fsz fB fq0 ⊢
 have hG0:Hid (GrW ⟨w,w1.heap.size,some ⟨bM,oM,none⟩,cM,n,g,n,ls⟩ (List.replicate n (-1)) W2):=⟨fq0,hO1'.keep fB,keep_trans hk1 fB⟩
 have hbb:w.heap.size≤w1.heap.size:=hk1.size
 have hbg:w1.heap.size≠g:=by omega
 have hC0:∀i,i<n→colF (List.replicate n (-1)) i = -1:=fun i hi=>by show (List.replicate n (-1:Int))[i]?.getD 0 = -1;rw[List.getElem?_replicate,if_pos hi];rfl
 have HM0:Hid (MtG n (entL ls) (colF (List.replicate n (-1)))∧(∀i,i<0→colF (List.replicate n (-1)) i ≠ -1)∧∀i,0≤i→i<n→colF (List.replicate n (-1)) i = -1) :=
  ⟨⟨fun i hi => .inl (hC0 i hi),fun i i' hi hi' e hne=>absurd (hC0 i hi) hne⟩,fun i hi=>absurd hi (Nat.not_lt_zero _),fun i _ hi=>hC0 i hi⟩
 generalize w1.heap.size=b at hG0 hbb hbg ⊢
 clear hO1 hO1' hk1 hb1 fsz fB fq0 hgl hC0 HR
 go_wp2_with fail
 go_loopw [5,20] (fun _ s20 wr=>∃(i:Nat) (col:List Int),i≤n∧s20 = .int .i64 (i:Int)∧Hid (GrW ⟨w,b,some ⟨bM,oM,none⟩,cM,n,g,n,ls⟩ col wr)∧Hid (MtG n (entL ls) (colF col)∧(∀i',i'<i→colF col i' ≠ -1)∧∀i',i≤i'→i'<n→colF col i' = -1)) (fun _ s20 _=>n - (intOf s20).toNat)
 case atStart=>exact ⟨0,_,by omega,rfl,hG0,HM0⟩
 case round =>
  obtain ⟨i,col,hile,rfl,hG,hF⟩:=hrel
  clear hG0 HM0
  by_cases hlt:i<n
  ·have hii:(i:Int)<(n:Int):=by omega
   have x0:=q_cell hG.out.q 0
   have x1:=q_cell hG.out.q 1
   have xl:=q_lt hG.out.q
   go_wp2_with (first|(refine wpList_make_full _ rfl _ _ 73 rfl wr.heap.size 4 i0 (.bool false) 1 Tryz.underlying73 hi hz0 hz1 _ _ _ _ n rfl rfl (by simp) (by simp) (by rw[hz2];omega) (by unfold maxLen;omega) (Nat.le_refl _) ?_;intro W4 hown4 hgr4;have hb4:Below wr.heap.size wr W4:=(Below.refl wr.heap.size wr).grown hgr4 (Nat.le_refl _) (fun k e=>by cases e);rw[made_fal n] at hown4;have hB4:BI W4 w.heap.size wr.heap.size n n (List.replicate n false):=⟨by simp,owns_base hown4 hG.out.base.size⟩;have hG4:GrW ⟨w,b,some ⟨bM,oM,none⟩,cM,n,g,n,ls⟩ col W4:=⟨keepq hb4 hG.out.q,hG.out.col.keep hb4,keep_trans hG.out.base hb4⟩;have hgw:=hG.out.col.blk)|(go_at_call 39;refine (HGR.out b g n wr.heap.size n 0 i col (List.replicate n false) W4 hbb hbg (by omega) (by have h9:=hgw.2;show g≠wr.heap.size;exact Nat.ne_of_lt h9) hlt (by omega) hG4 hB4 hF.out.1).mono ?_;rintro _ w9 ⟨r9,col9,s9,rfl,hG9,hB9,hst9,hw9,hl9⟩)|fail)
   have hr:r9=true:=by
    cases r9 with
    | true=>rfl
    | false =>
     have h9:=(hl9 rfl).2
     rw[senF_false] at h9
     exact absurd h9 (HNO.out i _ _ hlt (hF.out.2.2 i (Nat.le_refl _) hlt))
   have hW:=hw9 hr
   rw[senF_false] at hW
   go_roundw
   case rel =>
    refine ⟨i+1,col9,by omega,by go_num,hG9,hW.mt,fun i' hi'=>?_,fun i' h1 h2=>hW.rest h2 (by omega) (hF.out.2.2 i' (by omega) h2)⟩
    rcases Nat.lt_or_ge i' i with h3|h3
    ·exact hW.has (by omega) (hF.out.2.1 i' h3)
    ·rw[show i'=i by omega];exact hW.own'
   case measure=>simp[intOf];omega
  ·have e:n=i:=by omega
   subst e
   have HFL:Hid (Full n (entL ls) (colF col)):=⟨hF.out.1,hF.out.2.1⟩
   clear hF
   go_wp2_with fail
   go_loopw [6,7,8,9,10,30] (fun _ _ _ _ _ s30 wr=>∃(i gc cc:Nat) (col:List Int),i≤n∧s30 = .int .i64 (i:Int)∧b≠gc∧Hid (GrW ⟨w,b,some ⟨bM,oM,none⟩,cM,n,gc,cc,ls⟩ col wr)∧Hid (Full n (entL ls) (colF col))) (fun _ _ _ _ _ s30 _=>n - (intOf s30).toNat)
   case atStart=>exact ⟨0,g,n,col,by omega,rfl,hbg,hG,HFL⟩
   case round =>
    obtain ⟨i,gc,cc,col2,hi1,rfl,hbgc,hG2,hF2⟩:=hrel
    clear hG HFL
    by_cases hil:i<n
    ·have hii:(i:Int)<(n:Int):=by omega
     obtain ⟨bR,offR,a',n',c',eR,hbl,hcR,hicR,_⟩:=HRC.out.2 i hil
     cases eR
     have hn':n=n':=by rw[← hicR.len];exact (HROW.out i hil).symm
     subst hn'
     obtain ⟨bI,oI,_,_,_,haI,_⟩:∃bI oI,∃_ _ _:Unit,a'=some ⟨bI,oI,none⟩∧True:=by
      obtain ⟨b3,o3,e3,_⟩:=hicR.2 0 (by omega)
      exact ⟨b3,o3,(),(),(),e3,trivial⟩
     subst haI
     have HIR:=Lib.hid hicR
     have HBASE:=Lib.hid hG2.out.base
     have u0:=(hG2.out.base.cell (p:=⟨bM,oM+i,none⟩) hbl).trans hcR
     have ul:=Nat.lt_of_lt_of_le hbl hG2.out.base.size
     clear hicR
     go_wp2_with fail
     clear u0 ul
     go_loopw [7,8,9,10,38] (fun _ _ _ _ s38 wr=>∃(j gc cc:Nat) (col:List Int),j≤n∧s38 = .int .i64 (j:Int)∧b≠gc∧Hid (GrW ⟨w,b,some ⟨bM,oM,none⟩,cM,n,gc,cc,ls⟩ col wr)∧Hid (Full n (entL ls) (colF col))∧Hid (Below w.heap.size w wr)) (fun _ _ _ _ s38 _=>n - (intOf s38).toNat)
     case atStart=>exact ⟨0,gc,cc,col2,by omega,rfl,hbgc,hG2,hF2,HBASE⟩
     case round =>
      obtain ⟨j,gc,cc,col,hj1,rfl,hbgc,hG,hF,hB⟩:=hrel
      clear hG2 hF2
      by_cases hjl:j<n
      ·have hjj:(j:Int)<(n:Int):=by omega
       obtain ⟨b9,o9,eI,hbI,hcI⟩:=HIR.out.2 j hjl
       cases eI
       have z0:=(hB.out.cell (p:=⟨bI,oI+j,none⟩) hbI).trans hcI
       have zl:=Nat.lt_of_lt_of_le hbI hB.out.size
       obtain ⟨v,hv⟩:∃v,v=(ls[i]?.getD [])[j]?.getD 0:=⟨_,rfl⟩
       rw[← hv] at z0
       have HV:Hid (entL ls i j=v):=hv.symm
       clear hv
       by_cases h0:v=0
       ·have hd:(v==0)=true:=by simpa using h0
        go_wp2_with fail
        go_roundw
        case rel=>exact ⟨j+1,gc,cc,col,by omega,by go_num,hbgc,hG,hF,hB⟩
        case measure=>simp[intOf];omega
       ·have hd:(v==0)=false:=by simpa using h0
        have x0:=q_cell hG.out.q 0
        have x1:=q_cell hG.out.q 1
        have x1f:=q_free hG.out.q 1
        have xl:=q_lt hG.out.q
        have hcc:n≤cc:=hG.out.col.cap
        have HTK:=Lib.hid (contains_c (some ⟨gc,0,none⟩) i cc (col.take i) (j:Int) wr (hG.out.col.tak (by show i≤n;omega) (by show n≤_;omega)))
        generalize hasB (col.take i) (j:Int)=hh at HTK
        cases hh with
        | true =>
         go_wp2_with (first|(go_at_call 40;refine HTK.out.mono ?_;rintro _ w5 ⟨rfl,rfl⟩)|fail)
         go_roundw
         case rel=>exact ⟨j+1,gc,cc,col,by omega,by go_num,hbgc,hG,hF,hB⟩
         case measure=>simp[intOf];omega
        | false =>
         obtain ⟨y0,y1,y2⟩:=hG.out.col.at (k:=i) hil
         obtain ⟨ci,hci⟩:∃ci,ci=col[i]?.getD 0:=⟨_,rfl⟩
         rw[← hci] at y0
         have HCI:Hid (colF col i=ci):=hci.symm
         clear hci
         by_cases hcj:ci=(j:Int)
         ·have hd2:(ci==(j:Int))=true:=by simpa using hcj
          go_wp2_with (first|(go_at_call 40;refine HTK.out.mono ?_;rintro _ w5 ⟨rfl,rfl⟩)|fail)
          go_roundw
          case rel=>exact ⟨i+1,gc,cc,col,by omega,by go_num,hbgc,hG,hF⟩
          case measure=>simp[intOf];omega
         ·have hd2:(ci==(j:Int))=false:=by simpa using hcj
          have HCL:=Lib.hid (clone_c (some ⟨gc,0,none⟩) n cc col wr (hG.out.col.ic (by show n≤_;omega)))
          obtain ⟨k,hk1,hk2,hk3⟩:=idx_full hF.out hjl
          have hki:k≠i:=fun e=>by subst e;exact hcj (HCI.out.symm.trans hk2)
          have HIX:=Lib.hid (fun W h=>index_c (some ⟨gc,0,none⟩) n cc col (j:Int) W h)
          rw[hk3] at HIX
          have hkn:(k:Int)<(n:Int):=by omega
          have hcl0:col.length=n:=hG.out.col.len
          have HSWAP:Hid (MtG n (entL ls) (colF ((col.set i (j:Int)).set k (-1)))):=by
           have e1:colF ((col.set i (j:Int)).set k (-1))=updF (updF (colF col) i (j:Int)) k (-1):=by
            rw[show colF ((col.set i (j:Int)).set k (-1))=updF (colF (col.set i (j:Int))) k (-1) from list_updF 0 _ _ (by rw[List.length_set,hcl0];exact hk1),show colF (col.set i (j:Int))=updF (colF col) i (j:Int) from list_updF 0 _ _ (by rw[hcl0];exact hil)]
           unfold Hid
           rw[e1]
           exact ku_swap hF.out.mt hil hk1 hki hjl hk2 (by rw[HV.out];exact h0)
          have HALL:Hid (∀i',i'<n→i'≠k→colF ((col.set i (j:Int)).set k (-1)) i' ≠ -1):=fun i' h1 h2=>by
           show ((col.set i (j:Int)).set k (-1))[i']?.getD 0 ≠ -1
           rw[List.getElem?_set_ne (fun e=>h2 e.symm)]
           by_cases e:i'=i
           ·subst e
            rw[List.getElem?_set_self (by rw[hcl0];exact h1)]
            show (j:Int) ≠ -1
            omega
           ·rw[List.getElem?_set_ne (fun e2=>e e2.symm)]
            exact hF.out.all i' h1
          clear hk3 hcl0
          go_upto_region 18 with (first|(go_at_call 40;refine HTK.out.mono ?_;rintro _ w5 ⟨rfl,rfl⟩)|(go_at_call 15;refine HCL.out.mono ?_;rintro _ w6 ⟨v6,rfl,hown6,hb6⟩;have q6:=keepq hb6 hG.out.q;have x0:=q_cell q6 0;have x1:=q_cell q6 1;have x1f:=q_free q6 1;have xl:=q_lt q6)|(go_at_call 41;refine (HIX.out _ ((hG.out.col.ic (by show n≤_;omega)).mono hb6)).mono ?_;rintro _ w7 ⟨rfl,rfl⟩)|fail)
          have hcl0:col.length=n:=hG.out.col.len
          rw[hcl0] at hown6
          obtain ⟨a6,c6,rfl⟩:=owns_shape hown6
          obtain ⟨go,hgo,hOo⟩:=OI.of hown6 (by omega)
          subst hgo
          have hG6:GrW ⟨w,b,some ⟨bM,oM,none⟩,cM,n,gc,cc,ls⟩ col w6:=⟨q6,hG.out.col.keep hb6,keep_trans hG.out.base hb6⟩
          have hgcw:gc<wr.heap.size:=hG.out.col.blk.2
          have hgow:=hOo.blk
          have hbw:=q_lt hG.out.q
          have hHP:GP.ok ⟨w,b,some ⟨bM,oM,none⟩,cM,n,gc,cc,ls⟩:=⟨HRC.out,HROW.out,hbb,hbgc,show n≤16 by omega⟩
          have hG7:=(hG6.set hHP i (j:Int)).set hHP k (-1)
          have hO7:=(hOo.other (b:=gc) (i:=i) (show go≠gc by omega) (.int .i64 (j:Int))).other (b:=gc) (i:=k) (show go≠gc by omega) (.int .i64 (-1))
          have HG8:=Lib.hid (show GrW ⟨w,b,some ⟨bM,oM,none⟩,cM,n,gc,cc,ls⟩ ((col.set i (j:Int)).set k (-1)) (((w6.setCell ⟨gc,i,none⟩ (.int .i64 (j:Int))).setCell ⟨gc,k,none⟩ (.int .i64 (-1))).drew) from ⟨hG7.q,hG7.col.drew,hG7.base.drew⟩)
          have HO8:=Lib.hid hO7.drew
          obtain ⟨y0,y1,y2⟩:=hG6.col.at (k:=i) hil
          obtain ⟨z5,z6,z7⟩:=(hG6.set hHP i (j:Int)).col.at (k:=k) hk1
          have HS6:Hid (wr.heap.size≤w6.heap.size):=hb6.size
          clear hG7 hO7 hOo hG6 hown6 hb6 q6 HTK HCL HIX
          dsimp only at y0 y1 y2 z5 z6 z7
          refine wp_region_T (fun w'=>∃u,w'=over (w6) u) [0,1,2,4,5,6,7,9,10] [12,13,14] [(0,3),(0,8),(0,11),(2,12),(2,13),(2,14)] (by kernel_rfl) (by kernel_rfl) (by exact ⟨_,below_over (by repeat (first|assumption|exact Below.refl _ _|refine keep_drew ?_|refine keep_alloc ?_ _|refine keep_trans ?_ (by assumption)))⟩) ?_
          dsimp only[pickF,nthOp]
          repeat (first|(refine wpF_skip rfl (fun K hK=>?_);go_big_quiet_op;refine hK _ ?_;clear hK K)|(refine wpF_quiet rfl rfl (fun K hK=>?_);go_big_quiet_op;refine hK _ ?_;clear hK K))
          refine wpF_end ?_
          dsimp only[pickOps,nthOp]
          repeat (first|(refine wpS_skip rfl (fun K hK=>?_);go_big_quiet_op;refine hK _ ?_;clear hK K)|(refine wpS_quiet rfl rfl (fun K hK=>?_);go_big_quiet_op;refine hK _ ?_;clear hK K))
          refine wpS_late _ _ _ rfl ?_
          dsimp only[List.map]
          go_wp2_with (fail)
          refine NoPanic.normal ?_
          clear x0 x1 x1f xl y0 y1 y2 z5 z6 z7
          generalize (((w6.setCell ⟨gc,i,none⟩ (.int .i64 (j:Int))).setCell ⟨gc,k,none⟩ (.int .i64 (-1))).drew)=w8 at HG8 HO8 ⊢
          go_upto_region 19 with fail
          have x0:=q_cell HG8.out.q 0
          have x1:=q_cell HG8.out.q 1
          have x1f:=q_free HG8.out.q 1
          have xl:=q_lt HG8.out.q
          have hgo8:go<w8.heap.size:=HO8.out.blk.2
          have hgc8:gc<w8.heap.size:=HG8.out.col.blk.2
          have xl8:b<w8.heap.size:=xl
          have HGOB:Hid (w.heap.size≤go):=by have:=HO8.out.blk.1;have:=hG.out.base.size;unfold Hid;show w.heap.size≤go;have h9:w.heap.size≤wr.heap.size:=hG.out.base.size;omega
          have HNEG:Hid (go≠gc∧go≠b):=⟨by omega,by omega⟩
          clear hgow hgcw
          go_wp2_with (first|(refine wpList_make_full _ rfl _ _ 73 rfl w8.heap.size 4 i0 (.bool false) 1 Tryz.underlying73 hi hz0 hz1 _ _ _ _ n rfl rfl (by simp) (by simp) (by rw[hz2];omega) (by unfold maxLen;omega) (Nat.le_refl _) ?_;intro W4 hown4 hgr4;have hb4:Below w8.heap.size w8 W4:=(Below.refl w8.heap.size w8).grown hgr4 (Nat.le_refl _) (fun k e=>by cases e);rw[made_fal n] at hown4;have hB4:BI W4 w.heap.size w8.heap.size n n (List.replicate n false):=⟨by simp,owns_base hown4 HG8.out.base.size⟩;have hG4:GrW ⟨w,b,some ⟨bM,oM,none⟩,cM,n,gc,cc,ls⟩ ((col.set i (j:Int)).set k (-1)) W4:=⟨keepq hb4 HG8.out.q,HG8.out.col.keep hb4,keep_trans HG8.out.base hb4⟩;have hO4:=HO8.out.keep hb4;have hs4:=hb4.size)|(go_at_call 39;refine (HGR.out b gc cc w8.heap.size n (i+1) k _ (List.replicate n false) W4 hbb hbgc (by omega) (by omega) hk1 (by omega) hG4 hB4 HSWAP.out).mono ?_;rintro _ w9 ⟨r9,col9,s9,rfl,hG9,hB9,hst9,hw9,hl9⟩;have x0:=q_cell hG9.q 0;have x1:=q_cell hG9.q 1;have x1f:=q_free hG9.q 1;have xl:=q_lt hG9.q;cases r9)|fail)
          ·have hO9:=hO4.stay hst9 (fun e=>e.elim HNEG.out.1 (Nat.ne_of_lt hgo8))
           have hq9:=q_set (i:=1) hG9.q (.slice (some ⟨go,0,none⟩) n c6)
           have hO10:=(hO9.other (b:=b) (i:=1) HNEG.out.2 (.slice (some ⟨go,0,none⟩) n c6)).base (show w.heap.size≤_ from hG.out.base.size)
           have hB10:=hG9.base.setCell (p:=⟨b,1,none⟩) hbb (.slice (some ⟨go,0,none⟩) n c6)
           go_roundw
           case rel=>exact ⟨j+1,go,c6,col,by omega,by go_num,fun e=>HNEG.out.2 e.symm,⟨hq9,hO10,hB10⟩,hF,hB10⟩
           case measure=>simp[intOf];omega
          ·have hW:=hw9 (by trivial)
           go_roundw
           case rel =>
            refine ⟨i+1,gc,cc,col9,by omega,by go_num,hbgc,hG9,hW.mt,fun i' hi'=>?_⟩
            by_cases e:i'=k
            ·subst e;exact hW.own'
            ·exact hW.has hi' (HALL.out i' hi' e)
           case measure=>simp[intOf];omega
      ·have e:n=j:=by omega
       subst e
       go_wp2_with fail
       go_roundw
       case rel=>exact ⟨i+1,gc,cc,col,by omega,by go_num,hbgc,hG,hF⟩
       case measure=>simp[intOf];omega
    ·have e:n=i:=by omega
     subst e
     have x0:=q_cell hG2.out.q 0
     have x1:=q_cell hG2.out.q 1
     have xl:=q_lt hG2.out.q
     go_wp2_with fail
     go_ret
     obtain ⟨p1,p2⟩:=hF2.out.per hG2.out.col.len
     exact ⟨gc,cc,col2,rfl,hG2.out.col,p1,p2,hG2.out.base⟩
end
section
open Go Go.RowKit Go.Shelf Go.Lib Go.Sort
def compactA_ren:Go.Shelf.Ren:=⟨fun|20=>37|n=>n,fun|22=>22|3=>3|4=>4|0=>0|n=>n,fun|n=>n⟩
theorem compactA:Go.Proofs.Lays2.n20 Tryz.prog compactA_ren where
 mixed:=by kernel_rfl
 f20:=Tryz.func37.trans (congrArg some (by kernel_rfl))
 t0:=Tryz.underlying0
 a0:=Tryz.isAgg0
 z0:=Tryz.sizeOf0
 v0:=Tryz.zeroValue0
 t3:=Tryz.underlying3
 a3:=Tryz.isAgg3
 z3:=Tryz.sizeOf3
 v3:=Tryz.zeroValue3
 t4:=Tryz.underlying4
 a4:=Tryz.isAgg4
 z4:=Tryz.sizeOf4
 v4:=Tryz.zeroValue4
 t22:=Tryz.underlying22
 a22:=Tryz.isAgg22
 z22:=Tryz.sizeOf22
 v22:=Tryz.zeroValue22
 i3:=by kernel_rfl
def itoaA_ren:Go.Shelf.Ren:=⟨fun|171=>76|243=>85|246=>100|283=>109|284=>110|285=>111|286=>112|129=>99|317=>116|318=>117|319=>118|320=>119|337=>120|338=>121|n=>n,fun|3=>3|9=>9|2=>2|4=>4|171=>161|0=>0|53=>123|37=>25|5=>5|173=>163|212=>172|51=>120|20=>20|213=>173|46=>96|232=>174|233=>175|n=>n,fun|17=>0|18=>2|19=>3|n=>n⟩
theorem itoaA:Go.Proofs.Lays.n171 Tryz.prog itoaA_ren where
 mixed:=by kernel_rfl
 f129:=Tryz.func99.trans (congrArg some (by kernel_rfl))
 f171:=Tryz.func76.trans (congrArg some (by kernel_rfl))
 f243:=Tryz.func85.trans (congrArg some (by kernel_rfl))
 f246:=Tryz.func100.trans (congrArg some (by kernel_rfl))
 f283:=Tryz.func109.trans (congrArg some (by kernel_rfl))
 f284:=Tryz.func110.trans (congrArg some (by kernel_rfl))
 f285:=Tryz.func111.trans (congrArg some (by kernel_rfl))
 f286:=Tryz.func112.trans (congrArg some (by kernel_rfl))
 f317:=Tryz.func116.trans (congrArg some (by kernel_rfl))
 f318:=Tryz.func117.trans (congrArg some (by kernel_rfl))
 f319:=Tryz.func118.trans (congrArg some (by kernel_rfl))
 f320:=Tryz.func119.trans (congrArg some (by kernel_rfl))
 f337:=Tryz.func120.trans (congrArg some (by kernel_rfl))
 f338:=Tryz.func121.trans (congrArg some (by kernel_rfl))
 t0:=Tryz.underlying0
 a0:=Tryz.isAgg0
 z0:=Tryz.sizeOf0
 v0:=Tryz.zeroValue0
 t2:=Tryz.underlying2
 a2:=Tryz.isAgg2
 z2:=Tryz.sizeOf2
 v2:=Tryz.zeroValue2
 t3:=Tryz.underlying3
 a3:=Tryz.isAgg3
 z3:=Tryz.sizeOf3
 v3:=Tryz.zeroValue3
 t4:=Tryz.underlying4
 a4:=Tryz.isAgg4
 z4:=Tryz.sizeOf4
 v4:=Tryz.zeroValue4
 t5:=Tryz.underlying5
 a5:=Tryz.isAgg5
 z5:=Tryz.sizeOf5
 v5:=Tryz.zeroValue5
 t9:=Tryz.underlying9
 a9:=Tryz.isAgg9
 z9:=Tryz.sizeOf9
 v9:=Tryz.zeroValue9
 t20:=Tryz.underlying20
 a20:=Tryz.isAgg20
 z20:=Tryz.sizeOf20
 v20:=Tryz.zeroValue20
 t37:=Tryz.underlying25
 a37:=Tryz.isAgg25
 z37:=Tryz.sizeOf25
 v37:=Tryz.zeroValue25
 t46:=Tryz.underlying96
 a46:=Tryz.isAgg96
 z46:=Tryz.sizeOf96
 v46:=Tryz.zeroValue96
 t51:=Tryz.underlying120
 a51:=Tryz.isAgg120
 z51:=Tryz.sizeOf120
 v51:=Tryz.zeroValue120
 t53:=Tryz.underlying123
 a53:=Tryz.isAgg123
 z53:=Tryz.sizeOf123
 v53:=Tryz.zeroValue123
 t171:=Tryz.underlying161
 a171:=Tryz.isAgg161
 z171:=Tryz.sizeOf161
 v171:=Tryz.zeroValue161
 t173:=Tryz.underlying163
 a173:=Tryz.isAgg163
 z173:=Tryz.sizeOf163
 v173:=Tryz.zeroValue163
 t212:=Tryz.underlying172
 a212:=Tryz.isAgg172
 z212:=Tryz.sizeOf172
 v212:=Tryz.zeroValue172
 t213:=Tryz.underlying173
 a213:=Tryz.isAgg173
 z213:=Tryz.sizeOf173
 t232:=Tryz.underlying174
 a232:=Tryz.isAgg174
 z232:=Tryz.sizeOf174
 v232:=Tryz.zeroValue174
 t233:=Tryz.underlying175
 a233:=Tryz.isAgg175
 z233:=Tryz.sizeOf175
 v233:=Tryz.zeroValue175
 g17:=by kernel_rfl
 g18:=by kernel_rfl
 g19:=by kernel_rfl
def joinA_ren:Go.Shelf.Ren:=⟨fun|156=>77|165=>86|166=>87|169=>88|240=>101|241=>102|276=>113|277=>114|n=>n,fun|31=>63|9=>9|3=>3|4=>4|0=>0|20=>20|72=>136|76=>140|70=>134|37=>25|75=>139|127=>154|164=>165|5=>5|80=>142|n=>n,fun|n=>n⟩
theorem joinA:Go.Proofs.Lays.n156 Tryz.prog joinA_ren where
 mixed:=by kernel_rfl
 f156:=Tryz.func77.trans (congrArg some (by kernel_rfl))
 f165:=Tryz.func86.trans (congrArg some (by kernel_rfl))
 f166:=Tryz.func87.trans (congrArg some (by kernel_rfl))
 f169:=Tryz.func88.trans (congrArg some (by kernel_rfl))
 f240:=Tryz.func101.trans (congrArg some (by kernel_rfl))
 f241:=Tryz.func102.trans (congrArg some (by kernel_rfl))
 f276:=Tryz.func113.trans (congrArg some (by kernel_rfl))
 f277:=Tryz.func114.trans (congrArg some (by kernel_rfl))
 t0:=Tryz.underlying0
 a0:=Tryz.isAgg0
 z0:=Tryz.sizeOf0
 v0:=Tryz.zeroValue0
 t3:=Tryz.underlying3
 a3:=Tryz.isAgg3
 z3:=Tryz.sizeOf3
 v3:=Tryz.zeroValue3
 t4:=Tryz.underlying4
 a4:=Tryz.isAgg4
 z4:=Tryz.sizeOf4
 v4:=Tryz.zeroValue4
 t9:=Tryz.underlying9
 a9:=Tryz.isAgg9
 z9:=Tryz.sizeOf9
 v9:=Tryz.zeroValue9
 t20:=Tryz.underlying20
 a20:=Tryz.isAgg20
 z20:=Tryz.sizeOf20
 v20:=Tryz.zeroValue20
 t31:=Tryz.underlying63
 a31:=Tryz.isAgg63
 z31:=Tryz.sizeOf63
 v31:=Tryz.zeroValue63
 t37:=Tryz.underlying25
 a37:=Tryz.isAgg25
 z37:=Tryz.sizeOf25
 v37:=Tryz.zeroValue25
 t70:=Tryz.underlying134
 a70:=Tryz.isAgg134
 z70:=Tryz.sizeOf134
 v70:=Tryz.zeroValue134
 t72:=Tryz.underlying136
 a72:=Tryz.isAgg136
 z72:=Tryz.sizeOf136
 v72:=Tryz.zeroValue136
 t75:=Tryz.underlying139
 a75:=Tryz.isAgg139
 z75:=Tryz.sizeOf139
 v75:=Tryz.zeroValue139
 t76:=Tryz.underlying140
 a76:=Tryz.isAgg140
 z76:=Tryz.sizeOf140
 v76:=Tryz.zeroValue140
 t127:=Tryz.underlying154
 a127:=Tryz.isAgg154
 z127:=Tryz.sizeOf154
 v127:=Tryz.zeroValue154
 t164:=Tryz.underlying165
 a164:=Tryz.isAgg165
 z164:=Tryz.sizeOf165
 v164:=Tryz.zeroValue165
theorem joinX:Builder.Extra Tryz.prog joinA_ren where
 sizeBuilder:=by kernel_rfl
 liesBuilder:=by kernel_rfl
 t5:=Tryz.underlying5
 a5:=Tryz.isAgg5
 z5:=Tryz.sizeOf5
 v5:=Tryz.zeroValue5
 infoByte:=by kernel_rfl
 cellsByte:=by kernel_rfl
 sizeByte:=by kernel_rfl
 neB5:=by decide
theorem compact_same (S:Int) (n:Nat):(Lib.compact (List.replicate (n+1) S)).length=1:=by
 unfold Lib.compact compactUpTo
 rw[List.length_map,List.length_replicate,List.range_succ_eq_map,List.filter_cons]
 have hk:∀j,j<n+1→((List.replicate (n+1) S).toArray[j]!)=S:=fun j hj=>by
  rw[getElem!_pos _ j (by simpa using hj)]
  simp
 rw[if_pos (by unfold keeps;exact decide_eq_true (.inl rfl)),List.filter_eq_nil_iff.2]
 ·rfl
 ·intro j hj
  obtain ⟨i,hi,rfl⟩:=List.mem_map.1 hj
  rw[List.mem_range] at hi
  unfold keeps
  rw[hk (Nat.succ i) (by omega),show Nat.succ i - 1=i by omega,hk i (by omega)]
  simp
theorem compactS_c (B g n cap:Nat) (S:Int) (w:World) (hn:1≤n) (hn2:n≤1000) (h:OI w B g n cap (List.replicate n S)) :
  Calls Tryz.prog 37 #[.slice (some ⟨g,0,none⟩) n cap] w fun e w'=>e = .returned (.slice (some ⟨g,0,none⟩) 1 cap)∧Below B w w':=by
 obtain ⟨m,rfl⟩:∃m,n=m+1:=⟨n - 1,by omega⟩
 have hcap:=h.cap
 have hblk:=h.blk
 have hH:Holds (Value.int .i64) w g 0 (List.replicate (m+1) S).toArray:=by
  intro j hj
  have hj':j<m+1:=by simpa using hj
  obtain ⟨h1,h2,_⟩:=h.at hj'
  refine ⟨?_,by rw[Nat.zero_add];exact h2⟩
  rw[Nat.zero_add,h1,List.getElem?_replicate,if_pos hj',getElem!_pos _ j (by simpa using hj')]
  simp
 have:=Any.slices_Compact_int compactA g 0 cap (List.replicate (m+1) S) w hH (by simp;omega) (by simpa using hcap)
 rw[compact_same,List.length_replicate] at this
 refine this.mono ?_
 rintro e w' ⟨rfl,q,rfl⟩
 exact ⟨rfl,below_putRow (Below.refl _ _) hblk.1⟩
end
section
open Go Go.RowKit
attribute [local go_sem] over_cell
attribute [local go_sem] Oper.semAt_some
theorem cwhen_c (h:Bool) (e:Int) (w:World):Calls Tryz.prog 18 #[.bool h,.int .i64 e] w fun r w'=>r = .returned (.int .i64 (whenV h e))∧w=w':=by
 cases h
 ·go_enter Tryz.func18,Tryz.ntmps18
  go_wp2
  go_ret
  exact ⟨rfl,rfl⟩
 ·go_enter Tryz.func18,Tryz.ntmps18
  go_wp2
  go_ret
  exact ⟨rfl,rfl⟩
theorem cfirst_c (a:Option Addr) (n c:Nat) (xs:List Int) (w:World) (h:IC w a n xs) :
  Calls Tryz.prog 17 #[.slice a n c] w fun e w'=>e = .returned (.int .i64 (firstL xs))∧w=w':=by
 have hm:=h.small
 go_enter Tryz.func17,Tryz.ntmps17
 go_wp2
 go_loop [4,7] (fun _ i=>∃k:Nat,k≤n∧i = .int .i64 k∧Hid (∀j,j<k→xs[j]?.getD 0=0)) (fun _ i=>n - (intOf i).toNat)
 case atStart=>exact ⟨0,by omega,rfl,fun j hj=>absurd hj (by omega)⟩
 case round =>
  obtain ⟨k,hk,rfl,hn⟩:=hrel
  by_cases hlt:k<n
  ·obtain ⟨b,off,rfl,hb,hc⟩:=h.2 k hlt
   go_wp2
   ·have he:(xs[k]?.getD 0 != 0)=true:=by assumption
    go_ret
    exact ⟨ret_int (firstL_hit hn.out (by rw[h.len];exact hlt) (by simpa using he)).symm,rfl⟩
   ·have he:(xs[k]?.getD 0 != 0)=false:=by assumption
    go_round
    case rel=>exact ⟨k+1,by omega,by go_num,upI_snoc (f:=fun j=>xs[j]?.getD 0) hn.out (by simpa using he)⟩
    case measure=>simp[intOf];omega
  ·have e:k=n:=by omega
   subst e
   go_wp2
   go_ret
   exact ⟨ret_int (firstL_none (by rw[h.len];exact hn.out)).symm,rfl⟩
theorem outside_c (x:Int) (w:World) (h1:0≤x) (h2:x≤999999999):Calls Tryz.prog 36 #[.int .i64 x] w fun e w'=>e = .returned (.bool false)∧Below w.heap.size w w':=by
 have hd1:decide (x<0)=false:=decide_eq_false (by omega)
 have hd2:decide ((999999999:Int)<x)=false:=decide_eq_false (by omega)
 go_enter Tryz.func36,Tryz.ntmps36
 go_wp2
 go_ret
 exact ⟨rfl,Below.refl _ _⟩
theorem enterOut:∀args w,Sem.run Tryz.prog (callFunc 36 args) w = .ok (.enter 36 args) w:=by
 intro args w;kernel_rfl
theorem anyP_false {p:Nat→Bool} {n:Nat} (h:∀k,k<n→p k=false):anyP p n=false:=by
 unfold anyP
 rw[List.any_eq_false]
 intro k hk
 rw[h k (List.mem_range.1 hk)];simp
theorem rng_set {α:Type} (f:Nat→α) {N k:Nat} (hk:k<N) (v:α):((List.range N).map f).set k v=(List.range N).map (updF f k v):=by
 apply List.ext_getElem?
 intro i
 by_cases h:i<N
 ·by_cases e:i=k
  ·subst e
   rw[List.getElem?_set_self (by simpa using h),List.getElem?_map,List.getElem?_range h]
   show some v=some (updF f i v i)
   rw[updF_same]
  ·rw[List.getElem?_set_ne (fun h=>e h.symm),List.getElem?_map,List.getElem?_map,List.getElem?_range h]
   show some (f i)=some (updF f k v i)
   rw[updF_other _ _ e]
 ·rw[List.getElem?_eq_none (by simp;omega),List.getElem?_eq_none (by simp;omega)]
theorem rng_get {α:Type} (f:Nat→α) {N k:Nat} (hk:k<N) (d:α):((List.range N).map f)[k]?.getD d=f k:=by
 rw[List.getElem?_map,List.getElem?_range hk];rfl
theorem sigT_part {f:Nat→Int}:∀{n:Nat} {j:Nat},(∀i,i<n→0≤f i)→j≤n→0≤sigT j f∧sigT j f≤sigT n f:=by
 intro n
 induction n with
 | zero =>
  intro j _ hj
  obtain rfl:j=0:=by omega
  exact ⟨Int.le_refl _,Int.le_refl _⟩
 | succ n ih =>
  intro j h hj
  have h1:=ih (j:=n) (fun i hi=>h i (by omega)) (Nat.le_refl _)
  have h2:=h n (by omega)
  have e:sigT (n+1) f=sigT n f+f n:=rfl
  by_cases hj2:j≤n
  ·have:=ih (fun i hi=>h i (by omega)) hj2
   omega
  ·obtain rfl:j=n+1:=by omega
   omega
def sumsF (n:Nat) (M:Nat→Nat→Int) (i j k:Nat):Int :=
 if k<n then (if k<i then sigT n (fun y=>M k y) else if k=i then sigT j (fun y=>M k y) else 0) else sigT (i+if k - n<j then 1 else 0) (fun x=>M x (k - n))
theorem sumsF_row {n:Nat} {M:Nat→Nat→Int} {i k:Nat}:sumsF n M i n k=sumsF n M (i+1) 0 k∨¬k<n+n:=by
 by_cases hk:k<n+n
 ·refine .inl ?_
  unfold sumsF
  by_cases h:k<n
  ·rw[if_pos h,if_pos h]
   by_cases h1:k<i
   ·rw[if_pos h1,if_pos (by omega)]
   ·rw[if_neg h1]
    by_cases h2:k=i
    ·rw[if_pos h2,if_pos (by omega)]
    ·rw[if_neg h2,if_neg (by omega)]
     by_cases h3:k=i+1
     ·rw[if_pos h3];rfl
     ·rw[if_neg h3]
  ·rw[if_neg h,if_neg h,if_pos (by omega),if_neg (by omega),Nat.add_zero]
 ·exact .inr hk
theorem sumsF_step {n:Nat} {M:Nat→Nat→Int} {i j:Nat} (hi:i<n):(List.range (n+n)).map (updF (updF (sumsF n M i j) i (sumsF n M i j i+M i j)) (n+j) (sumsF n M i j (n+j)+M i j))=(List.range (n+n)).map (sumsF n M i (j+1)):=by
 apply List.map_congr_left
 intro k hk
 rw[List.mem_range] at hk
 by_cases e1:k=n+j
 ·subst e1
  rw[updF_same]
  unfold sumsF
  rw[if_neg (by omega),if_neg (by omega),show n+j - n=j by omega,if_neg (by omega),if_pos (by omega)];rfl
 ·rw[updF_other _ _ e1]
  by_cases e2:k=i
  ·subst e2
   rw[updF_same]
   unfold sumsF
   rw[if_pos hi,if_pos hi,if_neg (Nat.lt_irrefl k),if_pos rfl,if_neg (Nat.lt_irrefl k),if_pos rfl];rfl
  ·rw[updF_other _ _ e2]
   unfold sumsF
   by_cases h:k<n
   ·rw[if_pos h,if_pos h]
    by_cases h1:k<i
    ·rw[if_pos h1,if_pos h1]
    ·rw[if_neg h1,if_neg h1,if_neg e2,if_neg e2]
   ·rw[if_neg h,if_neg h]
    by_cases h1:k - n<j
    ·rw[if_pos h1,if_pos (by omega)]
    ·rw[if_neg h1,if_neg (by omega)]
theorem sumsF_end {n:Nat} {M:Nat→Nat→Int} {S:Int} (H:SumW n S M):(List.range (n+n)).map (sumsF n M n 0)=List.replicate (n+n) S:=by
 apply List.ext_getElem?
 intro k
 by_cases hk:k<n+n
 ·rw[List.getElem?_map,List.getElem?_range hk,List.getElem?_replicate,if_pos hk]
  show some (sumsF n M n 0 k)=some S
  unfold sumsF
  by_cases h:k<n
  ·rw[if_pos h,if_pos h,H.2.1 k h]
  ·rw[if_neg h,if_neg (by omega),Nat.add_zero,H.2.2 (k - n) (by omega)]
 ·rw[List.getElem?_eq_none (by simp;omega),List.getElem?_eq_none (by simp;omega)]
theorem sumsF_le {n:Nat} {M:Nat→Nat→Int} {S:Int} (H:SumW n S M) {i j k:Nat} (hi:i<n) (hj:j≤n) (hk:k<n+n):0≤sumsF n M i j k∧sumsF n M i j k≤S:=by
 have hS:0≤S:=by
  rw[← H.2.1 i hi]
  exact (sigT_part (fun y hy=>H.1 i y hi hy) (Nat.zero_le _)).2
 unfold sumsF
 by_cases h:k<n
 ·rw[if_pos h]
  split
  ·rw[H.2.1 k h];exact ⟨hS,Int.le_refl _⟩
  ·split
   ·rw[← H.2.1 k h]
    exact sigT_part (fun y hy=>H.1 k y h hy) hj
   ·exact ⟨Int.le_refl _,hS⟩
 ·rw[if_neg h,← H.2.2 (k - n) (by omega)]
  refine sigT_part (fun x hx=>H.1 x (k - n) hx (by omega)) ?_
  split <;> omega
end
section
open Go Go.RowKit
attribute [local go_sem] over_cell
attribute [local go_sem] Oper.semAt_some
theorem OI.cong {W:World} {B g n cap:Nat} {xs ys:List Int} (h:OI W B g n cap xs) (e:xs=ys):OI W B g n cap ys:=e▸h
theorem cmat_c (n:Nat) (h1:1≤n) (h16:n≤16) (a:Option Addr) (c:Nat) (ls:List (List Int)) (S:Int) (w:World) (h:RC w a n ls) (hrow:∀i,i<n→(ls[i]?.getD []).length=n) (hs:SumW n S (entL ls)) (hS:S≤1000) :
  Calls Tryz.prog 14 #[.slice a n c] w fun e w'=>e = .returned (.int .i64 0)∧Below w.heap.size w w':=by
 obtain ⟨i0,hi,hz0,hz1,hz2⟩:=info_parts infoInt
 have HRC:=Lib.hid h
 have HROW:=Lib.hid hrow
 have HENT:Hid (∀i j,i<n→j<n→0≤entL ls i j∧entL ls i j≤S):=fun i j hi hj=>⟨hs.1 i j hi hj,by
  have e:=hs.2.1 i hi
  have p1:=(sigT_part (f:=fun y=>entL ls i y) (n:=n) (j:=j+1) (fun y hy=>hs.1 i y hi hy) (by omega)).2
  have p0:=(sigT_part (f:=fun y=>entL ls i y) (n:=n) (j:=j) (fun y hy=>hs.1 i y hi hy) (by omega)).1
  have e3:sigT (j+1) (fun y=>entL ls i y)=sigT j (fun y=>entL ls i y)+entL ls i j:=rfl
  omega⟩
 have HLE:Hid (∀i j k,i<n→j≤n→k<n+n→0≤sumsF n (entL ls) i j k∧sumsF n (entL ls) i j k≤S):=fun i j k a b d=>sumsF_le hs a b d
 have HEND:=Lib.hid (sumsF_end hs)
 have HOUT:Hid (∀i a' c' W,i<n→IC W a' n (ls[i]?.getD [])→Calls Tryz.prog 22 #[.slice a' n c',.func (.func 36) #[] #[]] W fun e w'=>e = .returned (.bool false)∧Below W.heap.size W w'):=by
  intro i a' c' W hi hic
  refine (containsFuncI_c a' n c' _ 36 #[] (fun _=>false) W hic enterOut (fun k hk w' _=>?_)).mono ?_
  ·have:=HENT.out i k hi hk
   exact outside_c _ w' this.1 (by have:(ls[i]?.getD [])[k]?.getD 0=entL ls i k:=rfl;omega)
  ·rintro e w' ⟨rfl,hb⟩
   exact ⟨ret_bool (anyP_false fun _ _=>rfl),hb⟩
 have hn16:decide ((16:Int)<(n:Int))=false:=decide_eq_false (by omega)
 have h2n:(2:Int)*(n:Int)=((n+n:Nat):Int):=by omega
 clear h hrow hs
 go_enter Tryz.func14,Tryz.ntmps14
 go_wp2_with fail
 go_loopw [5,19] (fun _ s19 wr=>∃i:Nat,i≤n∧s19 = .int .i64 (i:Int)∧wr=w) (fun _ s19 _=>n - (intOf s19).toNat)
 case atStart=>exact ⟨0,by omega,rfl,rfl⟩
 case round =>
  obtain ⟨i,hi1,rfl,hwr⟩:=hrel
  replace hwr:=hwr.symm
  subst hwr
  by_cases hlt:i<n
  ·have hii:(i:Int)<(n:Int):=by omega
   obtain ⟨b,off,a',n',c',rfl,hbl,hc,hic,_⟩:=HRC.out.2 i hlt
   have hn':n=n':=by rw[← hic.len];exact (HROW.out i hlt).symm
   subst hn'
   have hne:((n:Int) != (n:Int))=false:=by simp
   clear hic
   go_wp2_with fail
   go_roundw
   case rel=>exact ⟨i+1,by omega,by go_num,trivial⟩
   case measure=>simp[intOf];omega
  ·have e:n=i:=by omega
   subst e
   go_wp2_with fail
   go_loopw [7,30] (fun _ s30 wr=>∃i:Nat,i≤n∧s30 = .int .i64 (i:Int)∧Hid (Below wr.heap.size wr wr)∧Hid (Below w.heap.size w wr)) (fun _ s30 _=>n - (intOf s30).toNat)
   case atStart=>exact ⟨0,by omega,rfl,Below.refl _ _,Below.refl _ _⟩
   case round =>
    obtain ⟨i,hi1,rfl,_,hB⟩:=hrel
    by_cases hlt:i<n
    ·have hii:(i:Int)<(n:Int):=by omega
     obtain ⟨b,off,a',n',c',rfl,hbl,hc,hic,_⟩:=(HRC.out.mono hB.out).2 i hlt
     have hn':n=n':=by rw[← hic.len];exact (HROW.out i hlt).symm
     subst hn'
     have HO:=Lib.hid (HOUT.out i a' c' wr hlt hic)
     clear hic
     go_wp2_with (first|(go_at_call 22;refine HO.out.mono ?_;rintro _ w3 ⟨rfl,hb3⟩)|fail)
     go_roundw
     case rel=>exact ⟨i+1,by omega,by go_num,Below.refl _ _,keep_trans hB.out hb3⟩
     case measure=>simp[intOf];omega
    ·have e:n=i:=by omega
     subst e
     have h2n:=h2n
     have HSZ:Hid (∀W4,(hown4:W4.ownsRow wr.heap.size 3 1 (.slice (some ⟨wr.heap.size,0,none⟩) (n+n) (n+n)) (n+n) (madeCells (Value.int .i64 0).cells ((n+n)*1)).toList)→OI W4 wr.heap.size wr.heap.size (n+n) (n+n) ((List.range (n+n)).map (sumsF n (entL ls) 0 0))):=fun W4 ho=>by
      refine ⟨by simp,?_⟩
      have e:(madeCells (Value.int .i64 0).cells ((n+n)*1)).toList=((List.range (n+n)).map (sumsF n (entL ls) 0 0)).map (Value.int .i64):=by
       apply List.ext_getElem?
       intro k
       by_cases hk:k<n+n
       ·rw[List.getElem?_map,List.getElem?_map,List.getElem?_range hk]
        have:sumsF n (entL ls) 0 0 k=0:=by
         unfold sumsF
         split
         ·rw[if_neg (Nat.not_lt_zero _)];split <;> rfl
         ·rw[if_neg (Nat.not_lt_zero _)];rfl
        show _=some (Value.int .i64 (sumsF n (entL ls) 0 0 k))
        rw[this]
        simp[madeCells,hk,Value.cells,Nat.mod_one]
       ·simp[madeCells,hk]
      rw[← e];exact ho
     go_upto_region 17 with (first|(refine wpList_make_full _ rfl _ _ 22 rfl wr.heap.size 3 i0 (.int .i64 0) 1 Tryz.underlying22 hi hz0 hz1 _ _ _ _ (n+n) rfl rfl (by simp) (by simp) (by rw[hz2];omega) (by unfold maxLen;omega) (Nat.le_refl _) ?_;intro W4 hown4 hgr4;have hb4:Below wr.heap.size wr W4:=(Below.refl wr.heap.size wr).grown hgr4 (Nat.le_refl _) (fun k e=>by cases e))|fail)
     have hO4:=Lib.hid ((HSZ.out W4 hown4).base hB.out.size)
     have HB4:=Lib.hid (keep_trans hB.out hb4)
     generalize wr.heap.size=g at hO4 ⊢
     clear hown4 hgr4 hb4 HSZ hB
     go_wp2_with fail
     go_loopw [9,10,11,12,42] (fun _ _ _ _ s42 wr=>∃i:Nat,i≤n∧s42 = .int .i64 (i:Int)∧Hid (OI wr w.heap.size g (n+n) (n+n) ((List.range (n+n)).map (sumsF n (entL ls) i 0)))∧Hid (Below w.heap.size w wr)) (fun _ _ _ _ s42 _=>n - (intOf s42).toNat)
     case atStart=>exact ⟨0,by omega,rfl,hO4,HB4⟩
     case round =>
      obtain ⟨i,hi1,rfl,hO,hB⟩:=hrel
      clear hO4 HB4
      by_cases hlt:i<n
      ·have hii:(i:Int)<(n:Int):=by omega
       obtain ⟨b,off,a',n',c',rfl,hbl,hc,hic,_⟩:=HRC.out.2 i hlt
       have hn':n=n':=by rw[← hic.len];exact (HROW.out i hlt).symm
       subst hn'
       have u0:=(hB.out.cell (p:=⟨b,off+i,none⟩) hbl).trans hc
       have ul:=Nat.lt_of_lt_of_le hbl hB.out.size
       have HIC:=Lib.hid hic
       clear hic
       go_wp2_with fail
       clear u0 ul
       go_loopw [11,12,49] (fun _ _ s49 wr=>∃j:Nat,j≤n∧s49 = .int .i64 (j:Int)∧Hid (OI wr w.heap.size g (n+n) (n+n) ((List.range (n+n)).map (sumsF n (entL ls) i j)))∧Hid (Below w.heap.size w wr)) (fun _ _ s49 _=>n - (intOf s49).toNat)
       case atStart=>exact ⟨0,by omega,rfl,hO,hB⟩
       case round =>
        obtain ⟨j,hj1,rfl,hO2,hB2⟩:=hrel
        clear hO hB
        by_cases hjl:j<n
        ·have hjj:(j:Int)<(n:Int):=by omega
         obtain ⟨b2,o2,rfl,hbl2,hc2⟩:=HIC.out.2 j hjl
         have z0:=(hB2.out.cell (p:=⟨b2,o2+j,none⟩) hbl2).trans hc2
         have zl:=Nat.lt_of_lt_of_le hbl2 hB2.out.size
         have hx:=HENT.out i j hlt hjl
         have hl1:=HLE.out i j i hlt (by omega) (by omega)
         have hl2:=HLE.out i j (n+j) hlt (by omega) (by omega)
         have HSTEP:=Lib.hid (sumsF_step (M:=entL ls) (j:=j) hlt)
         obtain ⟨x,hxe⟩:∃x,x=entL ls i j:=⟨_,rfl⟩
         have z0':wr.cell? ⟨b2,o2+j,none⟩=some (.int .i64 x):=by rw[z0,hxe];rfl
         obtain ⟨y0,y1,y2⟩:=hO2.out.at (k:=i) (by omega)
         rw[rng_get _ (by omega)] at y0
         obtain ⟨t0,t1,t2⟩:=(hO2.out.set i (sumsF n (entL ls) i j i+x)).at (k:=n+j) (by omega)
         rw[rng_set _ (by omega),rng_get _ (by omega),updF_other _ _ (show n+j≠i by omega)] at t0
         have HNEW:=(hO2.out.set i (sumsF n (entL ls) i j i+x)).set (n+j) (sumsF n (entL ls) i j (n+j)+x)
         rw[rng_set _ (by omega),rng_set _ (by omega)] at HNEW
         rw[← hxe] at hx HSTEP
         have HNEW2:=Lib.hid (HNEW.cong HSTEP.out)
         have hgb:w.heap.size≤g:=hO2.out.blk.1
         have hB3:=Lib.hid ((hB2.out.setCell (p:=⟨g,i,none⟩) hgb (.int .i64 (sumsF n (entL ls) i j i+x))).setCell (p:=⟨g,n+j,none⟩) hgb (.int .i64 (sumsF n (entL ls) i j (n+j)+x)))
         generalize sumsF n (entL ls) i j i=s1 at y0 t0 t1 t2 hl1 HNEW2 hB3
         generalize sumsF n (entL ls) i j (n+j)=s2 at t0 hl2 HNEW2 hB3
         have hni:(i:Int)<(n:Int)+(n:Int):=by omega
         have hnj:(n:Int)+(j:Int)<(n:Int)+(n:Int):=by omega
         clear z0 hxe HSTEP HNEW
         go_wp2_with fail
         go_roundw
         case rel=>exact ⟨j+1,by omega,by go_num,HNEW2,hB3⟩
         case measure=>simp[intOf];omega
        ·have e:n=j:=by omega
         subst e
         go_wp2_with fail
         go_roundw
         case rel =>
          refine ⟨i+1,by omega,by go_num,hO2.out.cong ?_,hB2⟩
          apply List.map_congr_left
          intro k hk
          rw[List.mem_range] at hk
          exact (sumsF_row (n:=n) (M:=entL ls) (i:=i) (k:=k)).resolve_right (fun h=>h hk)
         case measure=>simp[intOf];omega
      ·have e:n=i:=by omega
       subst e
       have hOE:=hO.out.cong HEND.out
       have HCP:=Lib.hid (compactS_c w.heap.size g (n+n) (n+n) S wr (by omega) (by omega) hOE)
       clear hOE
       go_wp2_with (first|(go_at_call 37;refine HCP.out.mono ?_;rintro _ w5 ⟨rfl,hb5⟩)|(go_at_call 18;refine (cwhen_c _ _ _).mono ?_;rintro _ w6 ⟨rfl,rfl⟩)|fail)
       go_ret
       exact ⟨rfl,hB.out.trans hb5⟩
end
end Go.Proofs.YtpkghjoippcjeaaGreatDoor
