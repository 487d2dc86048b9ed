/- Texts B23 to B27 of this proof, in one file. -/
import Derived.Test.YtaadpihbjhachaaGreatW01
import Derived.Test.YtaadpihbjhachaaGreatW10
import Derived.Test.YtaadpihbjhachaaGreatW16
import Derived.Test.YtaadpihbjhachaaGreatW21
import Derived.Test.YtaadpihbjhachaaGreatW22
import Derived.Test.YtaadpihbjhachaaGreatW24
import Derived.Test.YtaadpihbjhachaaGreatW27
import Derived.Test.YtaadpihbjhachaaGreatW28
import Derived.Maps.OwnSet
import Derived.Below
import Derived.Laws.BytesArg
import Derived.StringKeys
import Derived.Carry
namespace Go.Proofs.YtaadpihbjhachaaGreat
set_option maxRecDepth 100000
set_option maxHeartbeats 16000000
section
open Go Go.RowKit
attribute [local go_sem] over_cell
attribute [local go_sem] Oper.semAt_some
def fndB (ls:List (List Int)) (m:List Int) (k:Nat):Bool:=hasLineB (ls.take k) m
theorem fndB_succ {ls:List (List Int)} {m:List Int} {k:Nat} (h:k<ls.length):fndB ls m (k+1)=(fndB ls m k||sameB m (ls[k]?.getD [])):=by
 unfold fndB hasLineB sameB
 rw[take_snoc ls [] k h,Bool.eq_iff_iff,List.contains_iff_mem,Bool.or_eq_true,List.contains_iff_mem,decide_eq_true_eq,List.mem_append,List.mem_singleton]
theorem fndB_all {ls:List (List Int)} {m:List Int}:fndB ls m ls.length=hasLineB ls m:=by unfold fndB;rw[List.take_length]
theorem keeps_no {ls:List (List Int)} {p:List Int} {k:Nat} (hk:k<ls.length) (h:hasLineB ls (imgQ p (ls[k]?.getD []))=false):keepsB ls p=false:=by
 unfold keepsB
 rw[List.all_eq_false]
 refine ⟨ls[k]?.getD [],by rw[List.getElem?_eq_getElem hk];exact List.getElem_mem hk,?_⟩
 rw[h];decide
theorem keeps_yes {ls:List (List Int)} {p:List Int} (h:∀k,k<ls.length→hasLineB ls (imgQ p (ls[k]?.getD []))=true):keepsB ls p=true:=by
 unfold keepsB
 rw[List.all_eq_true]
 intro l hl
 obtain ⟨k,hk,e⟩:=List.getElem_of_mem hl
 have:=h k hk
 rw[List.getElem?_eq_getElem hk,e] at this
 exact this
theorem rkeeps_c (a:Option Addr) (n c:Nat) (ls:List (List Int)) (cells:Int) (ap:Option Addr) (np cp:Nat) (p:List Int) (w:World) (h:RC w a n ls) (hp:IC w ap np p) (hn:n≤128)
  (hl:∀l,l∈ls→l.length≤1000∧∀x,x∈l→0≤x∧x<(np:Int)) :
  Calls Tryz.prog 21 #[.agg #[.int .i64 cells,.slice a n c],.slice ap np cp] w fun e w'=>e = .returned (.bool (keepsB ls p))∧Below w.heap.size w w':=by
 have H:=Lib.hid h
 have HP:=Lib.hid hp
 have hll:=h.len
 have HLL:=Lib.hid hll
 have HL:Hid (∀k,k<n→(ls[k]?.getD []).length≤1000∧∀x,x∈ls[k]?.getD []→0≤x∧x<(np:Int)):=fun k hk=>hl _ (by rw[List.getElem?_eq_getElem (by omega)];exact List.getElem_mem _)
 have HNO:Hid (∀k,k<n→hasLineB ls (imgQ p (ls[k]?.getD []))=false→keepsB ls p=false):=fun k hk h=>keeps_no (by omega) h
 have HYES:Hid ((∀k,k<n→hasLineB ls (imgQ p (ls[k]?.getD []))=true)→keepsB ls p=true):=fun h=>keeps_yes (fun k hk=>h k (by omega))
 generalize keepsB ls p=kb at HNO HYES ⊢
 clear h hp hl hll
 go_enter Tryz.func21,Tryz.ntmps21
 go_wp2_with fail
 have fsz:(w.alloc (.cells #[.int .i64 cells,.slice a n c] 24)).heap.size=w.heap.size+1:=by simp only[World.size_alloc]
 have fB:Below w.heap.size w (w.alloc (.cells #[.int .i64 cells,.slice a n c] 24)):=(Below.refl _ _).alloc (Nat.le_refl _) _
 have fq0:(w.alloc (.cells #[.int .i64 cells,.slice a n c] 24)).heap[w.heap.size]?=some (.cells #[.int .i64 cells,.slice a n c] 24 (0,0)):=by have h:=World.alloc_heap_new w (.cells #[.int .i64 cells,.slice a n c] 24);exact h
 generalize (w.alloc (.cells #[.int .i64 cells,.slice a n c] 24))=W0 at fsz fB fq0 ⊢
 have HX:=Lib.hid (fun W (hb:Below W0.heap.size W0 W)=>(And.intro (q_cell (keepq hb fq0) 1) (q_lt (keepq hb fq0)):W.cell? ⟨w.heap.size,1,none⟩=some (.slice a n c)∧w.heap.size<W.heap.size))
 obtain ⟨x1,xl⟩:=HX.out _ (Below.refl _ _)
 clear fq0 fsz
 go_wp2_with fail
 clear x1 xl
 go_loopw [5,6,7,8] (fun iv _ _ _ wr=>∃(k:Nat),k≤n∧iv = .int .i64 k∧Hid (∀j,j<k→hasLineB ls (imgQ p (ls[j]?.getD []))=true)∧Below W0.heap.size W0 wr) (fun iv _ _ _ _=>n - (intOf iv).toNat)
 case atStart=>exact ⟨0,by omega,rfl,fun j hj=>by omega,Below.refl _ _⟩
 case round =>
  obtain ⟨k,hk,rfl,hup,hbr⟩:=hrel
  obtain ⟨x1,xl⟩:=HX.out _ hbr
  have hbw:=keep_trans fB hbr
  by_cases hlt:k<n
  ·have hki:(k:Int)<(n:Int):=by omega
   obtain ⟨b,off,al,nl,cl,rfl,hb,hc,hil,_⟩:=(H.out.mono hbw).2 k hlt
   have hln:=HL.out k hlt
   have hnl:=hil.len
   have HIM:=Lib.hid (rimage_c ap np cp p al nl cl (ls[k]?.getD []) wr (HP.out.mono hbw) hil (by omega) (fun j hj=>hln.2 _ (by rw[List.getElem?_eq_getElem (show j<(ls[k]?.getD []).length by omega)];exact List.getElem_mem _)))
   have HIL:Hid ((imgQ p (ls[k]?.getD [])).length=nl):=by unfold Hid;have:=imgTo_len p (ls[k]?.getD []) (Nat.le_refl _);unfold imgQ;omega
   have hn1000:nl≤1000:=by omega
   have HNOk:=Lib.hid (HNO.out k hlt)
   have HUPk:Hid (hasLineB ls (imgQ p (ls[k]?.getD []))=true→∀j,j<k+1→hasLineB ls (imgQ p (ls[j]?.getD []))=true):=fun h j hj=>by
    by_cases e:j=k
    ·rw[e];exact h
    ·exact hup.out j (by omega)
   clear hil hln hnl
   generalize hM:imgQ p (ls[k]?.getD [])=M at HIM HIL HNOk HUPk
   clear hM
   go_wp2_with fail
   refine HIM.out.mono ?_
   rintro _ w1 ⟨v1,rfl,hown1,hb1⟩
   obtain ⟨a1,c1,rfl⟩:=owns_shape hown1
   have HIC:Hid (IC w1 a1 nl M):=by
    have h1:w1.ownsRow wr.heap.size 3 1 (.slice a1 M.length c1) M.length (M.map (Value.int .i64)):=by rw[HIL.out];exact hown1
    have h2:=(IC.of_owns h1 (by rw[HIL.out];omega)).1
    rw[HIL.out] at h2
    exact h2
   have HB1:=Lib.hid (keep_trans hbr hb1)
   clear x1 xl hown1 HIM hb1
   obtain ⟨x1,xl⟩:=HX.out _ HB1.out
   go_wp2_with fail
   clear x1 xl
   go_loopw [7,8] (fun fv iv wq=>∃(j:Nat),j≤n∧iv = .int .i64 j∧fv = .bool (fndB ls M j)∧Below w1.heap.size w1 wq) (fun _ iv _=>n - (intOf iv).toNat)
   case atStart=>exact ⟨0,by omega,rfl,rfl,Below.refl _ _⟩
   case round =>
    obtain ⟨j,hj,rfl,rfl,hbq⟩:=hrel
    have hBq:=keep_trans HB1.out hbq
    obtain ⟨x1,xl⟩:=HX.out _ hBq
    by_cases hlt2:j<n
    ·have hji:(j:Int)<(n:Int):=by omega
     obtain ⟨b2,off2,am,nm,cm,e2,hb2,hc2,him,_⟩:=(H.out.mono (keep_trans fB hBq)).2 j hlt2
     simp only[Option.some.injEq,Addr.mk.injEq,and_true] at e2
     obtain ⟨rfl,rfl⟩:=e2
     have HFS:=Lib.hid (fndB_succ (ls:=ls) (m:=M) (k:=j) (by rw[HLL.out];exact hlt2))
     have HSM:=Lib.hid (same_c a1 am nl nm c1 cm M (ls[j]?.getD []) wr (HIC.out.mono hbq) him)
     clear him
     generalize sameB M (ls[j]?.getD [])=sb at HFS HSM
     cases hfd:fndB ls M j with
     | true =>
      rw[hfd] at HFS
      clear hfd
      go_wp2_with fail
      go_roundw
      case rel=>exact ⟨j+1,by omega,by go_num,by rw[HFS.out];rfl,hbq⟩
      case measure=>simp[intOf];omega
     | false =>
      rw[hfd] at HFS
      clear hfd
      go_wp2_with (go_at_call 31;refine HSM.out.mono ?_;rintro _ w2 ⟨rfl,hb2'⟩)
      have HB2:=Lib.hid (keep_trans hbq hb2')
      go_roundw
      case rel=>exact ⟨j+1,by omega,by go_num,by rw[HFS.out];rfl,HB2.out⟩
      case measure=>simp[intOf];omega
    ·have hji:¬(j:Int)<(n:Int):=by omega
     have e:j=n:=by omega
     subst e
     have HAL:Hid (fndB ls M j=hasLineB ls M):=by unfold Hid;rw[← HLL.out];exact fndB_all
     cases hfd:fndB ls M j with
     | true =>
      rw[hfd] at HAL
      have HU:=Lib.hid (HUPk.out HAL.out.symm)
      clear hfd
      go_wp2_with fail
      go_roundw
      case rel=>exact ⟨k+1,by omega,by go_num,HU.out,hBq⟩
      case measure=>simp[intOf];omega
     | false =>
      rw[hfd] at HAL
      have HN:=Lib.hid (HNOk.out HAL.out.symm)
      clear hfd
      go_wp2_with fail
      go_ret
      exact ⟨ret_bool HN.out.symm,keep_trans fB hBq⟩
  ·have hki:¬(k:Int)<(n:Int):=by omega
   have e:k=n:=by omega
   subst e
   have HY:=Lib.hid (HYES.out hup.out)
   go_wp2_with fail
   go_ret
   exact ⟨ret_bool HY.out.symm,hbw⟩
end
section
open Go Go.RowKit Go.Maps
section
variable {α:Type} {P:Program} {k e:TypeId} {κ:α→Lit} {b n:Nat} {w:World}
def MapB (w:World) (P:Program) (k e:TypeId) (κ:α→Lit) (b n:Nat) (g:α→Bool):Prop :=
 ∃D:DataW Unit,w.ownsMap P k (plainElem P e) b n D∧∀x,D.atKey (κ x) (.lit (.bool false)) = .lit (.bool (g x))
theorem own_block {D:DataW Unit} {w':World} {R:Value→Option (DataW Unit × List MemPlace)} (h:w.ownsMap P k R b n D) (hb:w'.heap[b]?=w.heap[b]?):w'.ownsMap P k R b n D:=by
 obtain ⟨es,clock,h1,r⟩:=h
 exact ⟨es,clock,hb.trans h1,r⟩
theorem MapB.lt {g:α→Bool} (h:MapB w P k e κ b n g):b<w.heap.size:=by obtain ⟨D,h1,_⟩:=h;exact h1.lt
theorem MapB.block {g:α→Bool} (h:MapB w P k e κ b n g) {w':World} (hb:w'.heap[b]?=w.heap[b]?):MapB w' P k e κ b n g:=by
 obtain ⟨D,h1,h2⟩:=h
 exact ⟨D,own_block h1 hb,h2⟩
theorem MapB.mono {g:α→Bool} (h:MapB w P k e κ b n g) {B:Nat} {w':World} (hb:Below B w w') (hlt:b<B):MapB w' P k e κ b n g:=h.block (hb.block b hlt)
theorem MapB.made:MapB (w.alloc (.map #[] 0)) P k e κ w.heap.size 0 (fun _=>false):=⟨_,World.ownsMap_made _ _ _ _,fun _=>rfl⟩
theorem plainElem_bool_inv (he:P.underlying e=some .bool) {v:Value} {z:DataW Unit × List MemPlace} (h:plainElem P e v=some z):∃x,v = .bool x∧z=(.lit (.bool x),[]):=by
 unfold plainElem at h
 rw[he] at h
 cases v <;> simp at h
 exact ⟨_,rfl,h.symm⟩
end
section
variable {α:Type} [DecidableEq α] {P:Program} (w:World) {ops:Array Oper} {rest:List Oper} {o:Oper} {a:Act} {Q:Exit→Act→World→Prop}
theorem wpList_putB (hg:o.guard=none) (m x v:Operand) (t:TypeId) (hop:o.op=Op.mapUpdate t m x v) (k e:TypeId) (K:Keyed P k) (ht:P.underlying t=some (.map k e)) (he:P.underlying e=some .bool)
  (κ:α→Lit) (hinj:∀x y,κ x=κ y→x=y) (b n:Nat) (g:α→Bool) (hm:a.eval m = .map (some b)) (h:MapB w P k e κ b n g) (hn:n<maxLen) (key:Value) (y:α) (c:Bool) (hx:a.eval x=key) (hv:a.eval v = .bool c)
  (hkey:keyOf P k key=some (κ y))
  (hK:∀w',MapB w' P k e κ b (n+1) (fun z=>if z=y then c else g z)→w.grownBy w' (some b)→wpList P ops Q rest (a.put o.dst undef) w') :
  wpList P ops Q (o :: rest) a w:=by
 obtain ⟨D,h1,h2⟩:=h
 refine wpList_mapUpdate_own w hg m x v t hop k e K ht (plainElem P e) b n D hm h1 hn key (.bool c) (κ y) hx hv hkey (.lit (.bool c)) [] (plainElem_bool he c) (fun w' h3 h4=>hK w' ⟨_,h3,fun z=>?_⟩ h4)
 by_cases e1:z=y
 ·subst e1
  dsimp only
  rw[if_pos rfl]
  exact atKey_put_same h1.isMap (K.key hkey) _ _
 ·dsimp only
  rw[if_neg e1,atKey_put_other (fun e2=>e1 (hinj _ _ e2))]
  exact h2 z
end
section
variable {α:Type} {P:Program} (w:World) {ops:Array Oper} {rest:List Oper} {o:Oper} {a:Act} {Q:Exit→Act→World→Prop}
theorem wpList_lookB (hg:o.guard=none) (m x:Operand) (t:TypeId) (hop:o.op=Op.lookup t m x false) (k e:TypeId) (K:Keyed P k) (ht:P.underlying t=some (.map k e)) (he:P.underlying e=some .bool) (hz:(zeroValue e).run P w = .ok (.bool false) w)
  (κ:α→Lit) (b n:Nat) (g:α→Bool) (hm:a.eval m = .map (some b)) (h:MapB w P k e κ b n g) (key:Value) (y:α) (hx:a.eval x=key) (hkey:keyOf P k key=some (κ y))
  (hK:wpList P ops Q rest (a.put o.dst (.bool (g y))) w) :
  wpList P ops Q (o :: rest) a w:=by
 obtain ⟨D,h1,h2⟩:=h
 refine wpList_plain hg fun K' hK'=>?_
 obtain ⟨v,ps,hrun,hv⟩:=h1.lookup K ht hz (plainElem_bool he false) hkey
 obtain ⟨c,rfl,hc⟩:=plainElem_bool_inv he hv
 simp only[Prod.mk.injEq] at hc
 rw[h2 y] at hc
 have:g y=c:=by have:=hc.1;cases this;rfl
 rw[this] at hK
 unfold Oper.wp
 simp[execOp,hop,hm,hx,hrun,Result.andThen]
 exact hK' _ _ hK
end
end
section
open Go Go.RowKit
attribute [local go_sem] over_cell
attribute [local go_sem] Oper.semAt_some
theorem infoByte:(Tryz.prog.info? 5).map (fun i=>(i.zero,i.size,i.bytes))=some (some (.int .u8 0),1,1):=by kernel_rfl
theorem key_inj {l m:List Int} (hl:∀x,x∈l→0≤x∧x<256) (hm:∀x,x∈m→0≤x∧x<256) (h:strOfNums l=strOfNums m):l=m:=by
 have h1:=congrArg (fun s:ByteArray=>s.data.toList) h
 simp only[strOfNums_data] at h1
 have h2:l.length=m.length:=by simpa using congrArg List.length h1
 refine List.ext_getElem h2 fun i hi hj=>?_
 have h3:(l.map fun n=>UInt8.ofNat n.toNat)[i]'(by simpa using hi)=(m.map fun n=>UInt8.ofNat n.toNat)[i]'(by simpa using hj):=by simp only[h1]
 rw[List.getElem_map,List.getElem_map] at h3
 have h4:=congrArg UInt8.toNat h3
 have a:=hl _ (List.getElem_mem hi)
 have b:=hm _ (List.getElem_mem hj)
 simp only[UInt8.toNat_ofNat'] at h4
 omega
theorem gkey_c (a:Option Addr) (n c:Nat) (l:List Int) (w:World) (h:IC w a n l) (hn:n≤1000) (hb:∀k,k<n→0≤l[k]?.getD 0∧l[k]?.getD 0<256) :
  Calls Tryz.prog 167 #[.agg #[.slice a n c,.bool false]] w fun e w'=>e = .returned (.string (strOfNums l))∧Below w.heap.size w w':=by
 obtain ⟨i0,hi,hz0,hz1,hz2⟩:=info_parts infoByte
 have H:=Lib.hid h
 have HB:=Lib.hid hb
 have HLL:=Lib.hid h.len
 have HS:Hid (∀k,k<n→(l.take (k+1)).map (Value.int .u8)=(l.take k).map (Value.int .u8)++[.int .u8 (l[k]?.getD 0)]):=fun k hk=>by rw[take_snoc l 0 k (by rw[h.len];exact hk),List.map_append];rfl
 have HE:Hid ((l.take n).map (Value.int .u8)=l.map (Value.int .u8)):=by unfold Hid;rw[← h.len,List.take_length]
 clear h hb
 go_enter Tryz.func167,Tryz.ntmps167
 go_upto_region 1 with fail
 have fsz:(w.alloc (.cells #[.slice a n c,.bool false] 138)).heap.size=w.heap.size+1:=by simp only[World.size_alloc]
 have fB:Below w.heap.size w (w.alloc (.cells #[.slice a n c,.bool false] 138)):=(Below.refl _ _).alloc (Nat.le_refl _) _
 have fq0:(w.alloc (.cells #[.slice a n c,.bool false] 138)).heap[w.heap.size]?=some (.cells #[.slice a n c,.bool false] 138 (0,0)):=by have h:=World.alloc_heap_new w (.cells #[.slice a n c,.bool false] 138);exact h
 generalize (w.alloc (.cells #[.slice a n c,.bool false] 138))=W0 at fsz fB fq0 ⊢
 have HX:=Lib.hid (fun W (hb:Below W0.heap.size W0 W)=>(And.intro (q_cell (keepq hb fq0) 0) (And.intro (q_cell (keepq hb fq0) 1) (q_lt (keepq hb fq0))):W.cell? ⟨w.heap.size,0,none⟩=some (.slice a n c)∧W.cell? ⟨w.heap.size,1,none⟩=some (.bool false)∧w.heap.size<W.heap.size))
 obtain ⟨x0,x1,xl⟩:=HX.out _ (Below.refl _ _)
 clear fq0 fsz
 go_wp2_with (refine wpList_make_own _ rfl _ _ 252 rfl W0.heap.size 5 i0 (.int .u8 0) 1 Tryz.underlying252 hi hz0 hz1 _ _ _ (n+1) rfl rfl (by simp) (by rw[hz2];omega) (by unfold maxLen;omega) (Nat.le_refl _) ?_;intro W4 hown4 hgr4;have hB4:Below W0.heap.size W0 W4:=(Below.refl W0.heap.size W0).grown hgr4 (Nat.le_refl _) (fun k e=>by cases e);clear hgr4 x0 x1 xl;obtain ⟨x0,x1,xl⟩:=HX.out _ hB4)
 clear x0 x1 xl
 go_loopw [3,5,14] (fun ov _ iv wr=>∃(k g cap:Nat),k≤n∧iv = .int .i64 k∧ov = .slice (some ⟨g,0,none⟩) k cap∧wr.ownsRow W0.heap.size 5 1 ov k ((l.take k).map (Value.int .u8))∧Below W0.heap.size W0 wr) (fun _ _ iv _=>n - (intOf iv).toNat)
 case atStart=>exact ⟨0,_,_,by omega,rfl,rfl,hown4,hB4⟩
 case round =>
  clear hown4 hB4
  obtain ⟨k,g,cap,hk,rfl,rfl,hown,hbr⟩:=hrel
  have hbw:=keep_trans fB hbr
  have hszr:=hbr.size
  by_cases hlt:k<n
  ·have hki:(k:Int)<(n:Int):=by omega
   obtain ⟨b,off,rfl,hbb,hc⟩:=(H.out.mono hbw).2 k hlt
   have hx:=HB.out k hlt
   have HSk:=Lib.hid (HS.out k hlt)
   generalize l[k]?.getD 0=x at hc hx HSk
   have hx0:=hx.1
   have hx1:=hx.2
   have hxm:x % 256=x:=by omega
   have HOW:=Lib.hid hown
   clear hown
   go_wp2_with (at_builtin;refine wpList_append_own _ rfl _ _ 252 rfl W0.heap.size 5 i0 (.int .u8 0) 1 1 Tryz.underlying252 hi hz0 hz1 hz2 rfl (by decide) _ _ _ rfl (HOW.out.alloc _) ⟨wr.heap.size,0,none⟩ 1 1 [.int .u8 x] rfl rfl (cell_one_new _ _ _) (by simp[Value.oneCell']) (by unfold maxLen;omega) (by omega) (by simp;omega) ?_;intro v5 w5 hown5 hgrow _;have hs5:=grow_stays hgrow;have hb5:Below W0.heap.size W0 w5:=hbr.trans (hs5.below hszr (fun k e=>owns_ge HOW.out e));rw[← HSk.out] at hown5;obtain ⟨a5,c5,rfl⟩:=owns_shape hown5;obtain ⟨g5,cur5,rfl,_,_⟩:=owns_blk hown5 (by omega);have HO5:=Lib.hid hown5;clear hown5 hgrow hs5)
   go_roundw
   case rel=>exact ⟨k+1,_,_,by omega,by go_num,rfl,HO5.out,hb5⟩
   case measure=>simp[intOf];omega
  ·have hki:¬(k:Int)<(n:Int):=by omega
   have e:k=n:=by omega
   subst k
   obtain ⟨x0,x1,xl⟩:=HX.out _ hbr
   rw[HE.out] at hown
   have hcv:=run_convert_bytes_arg (P:=Tryz.prog) wr 252 5 Tryz.underlying252 Tryz.underlying5 g 0 n cap l HLL.out (fun i hi=>by
    obtain ⟨g9,c9,x9,e9,hx9,hcell9,_,_,_⟩:=owns_free (owns_base hown (Nat.zero_le _)) i hi
    simp only[Value.slice.injEq,Option.some.injEq,Addr.mk.injEq,true_and,and_true] at e9
    obtain ⟨rfl,_⟩:=e9
    rw[Nat.zero_add,hcell9,← hx9,List.getElem?_map,List.getElem?_eq_getElem (by rw[HLL.out];exact hi)]
    simp[List.getD,List.getElem?_eq_getElem (show i<l.length by rw[HLL.out];exact hi)]) 9 Tryz.underlying9
   clear hown
   go_wp2_with fail
   go_ret
   exact ⟨rfl,hbw⟩
end
section
open Go Go.RowKit Go.Maps
attribute [local go_sem] over_cell
attribute [local go_sem] Oper.semAt_some
def bytesL (l:List Int):List UInt8:=l.map fun n=>UInt8.ofNat n.toNat
theorem bytesL_inj {l m:List Int} (hl:∀x,x∈l→0≤x∧x<256) (hm:∀x,x∈m→0≤x∧x<256) (h:bytesL l=bytesL m):l=m :=
 key_inj hl hm (by unfold strOfNums;unfold bytesL at h;rw[h])
def knownG (ls:List (List Int)) (k:Nat) (z:List UInt8):Bool:=decide (z∈(ls.take k).map bytesL)
theorem knownG_zero (ls:List (List Int)):knownG ls 0=fun _=>false:=by funext z;simp[knownG]
theorem knownG_succ {ls:List (List Int)} {k:Nat} (h:k<ls.length):(fun z=>if z=bytesL (ls[k]?.getD []) then true else knownG ls k z)=knownG ls (k+1):=by
 funext z
 unfold knownG
 rw[take_snoc ls [] k h,List.map_append,List.map_singleton]
 by_cases e:z=bytesL (ls[k]?.getD [])
 ·rw[if_pos e]
  symm
  rw[decide_eq_true_eq,List.mem_append,List.mem_singleton]
  exact .inr e
 ·rw[if_neg e]
  exact decide_eq_decide.2 (by rw[List.mem_append,List.mem_singleton];exact ⟨.inl,fun h=>h.elim id (fun h=>absurd h e)⟩)
theorem known_has {ls:List (List Int)} {m:List Int} (hm:∀x,x∈m→0≤x∧x<256) (hl:∀l,l∈ls→∀x,x∈l→0≤x∧x<256):knownG ls ls.length (bytesL m)=hasLineB ls m:=by
 unfold knownG hasLineB
 rw[List.take_length,Bool.eq_iff_iff,decide_eq_true_eq,List.contains_iff_mem,List.mem_map]
 constructor
 ·rintro ⟨l,h,e⟩
  rw[← bytesL_inj (hl l h) hm e]
  exact h
 ·exact fun h=>⟨m,h,rfl⟩
theorem keyed_str:Keyed Tryz.prog 9:=string_keyed Tryz.underlying9
theorem zero_bool (w:World):(zeroValue 4).run Tryz.prog w = .ok (.bool false) w:=by kernel_rfl
def keeperV (bk:Nat):Value := .func (.func 168) #[] #[.pointer (some ⟨bk,0,none⟩)]
def KeeperC (w:World) (bk mb n:Nat) (ls:List (List Int)):Prop :=
 w.heap[bk]?=some (.cells #[.map (some mb)] 221 (0,0))∧MapB w Tryz.prog 9 4 Lit.string mb n (knownG ls n)
def KeepOut (w w':World) (n:Nat) (ls:List (List Int)) (e:Ending):Prop :=
 ∃bk mb,e = .returned (keeperV bk)∧KeeperC w' bk mb n ls∧w.heap.size≤bk∧w.heap.size≤mb∧bk≠mb∧Below w.heap.size w w'
theorem keeper_c (a:Option Addr) (n c:Nat) (ls:List (List Int)) (cells:Int) (w:World) (h:RC w a n ls) (hn:n≤128) (hl:∀l,l∈ls→l.length≤1000∧∀x,x∈l→0≤x∧x<256) :
  Calls Tryz.prog 95 #[.agg #[.int .i64 cells,.slice a n c]] w fun e w'=>KeepOut w w' n ls e:=by
 have H:=Lib.hid h
 have HLL:=Lib.hid h.len
 have HL:Hid (∀k,k<n→(ls[k]?.getD []).length≤1000∧∀x,x∈ls[k]?.getD []→0≤x∧x<256):=fun k hk=>hl _ (by rw[List.getElem?_eq_getElem (by rw[h.len];exact hk)];exact List.getElem_mem _)
 clear h hl
 go_enter Tryz.func95,Tryz.ntmps95
 go_upto_region 1 with fail
 have fsz:(w.alloc (.cells #[.int .i64 cells,.slice a n c] 24)).heap.size=w.heap.size+1:=by simp only[World.size_alloc]
 have fB:Below w.heap.size w (w.alloc (.cells #[.int .i64 cells,.slice a n c] 24)):=(Below.refl _ _).alloc (Nat.le_refl _) _
 have fq0:(w.alloc (.cells #[.int .i64 cells,.slice a n c] 24)).heap[w.heap.size]?=some (.cells #[.int .i64 cells,.slice a n c] 24 (0,0)):=by have h:=World.alloc_heap_new w (.cells #[.int .i64 cells,.slice a n c] 24);exact h
 generalize (w.alloc (.cells #[.int .i64 cells,.slice a n c] 24))=W0 at fsz fB fq0 ⊢
 have HX:=Lib.hid (fun W (hb:Below W0.heap.size W0 W)=>(And.intro (q_cell (keepq hb fq0) 1) (q_lt (keepq hb fq0)):W.cell? ⟨w.heap.size,1,none⟩=some (.slice a n c)∧w.heap.size<W.heap.size))
 clear fq0 fsz
 have hmm:=@run_makeMap Tryz.prog
 go_upto_region 2 with fail
 clear hmm
 obtain ⟨W1,hW1⟩:∃W1,W1=(W0.alloc (.map #[] 0)).alloc (.cells #[.map (some W0.heap.size)] 221):=⟨_,rfl⟩
 have hM1:MapB W1 Tryz.prog 9 4 Lit.string W0.heap.size 0 (knownG ls 0):=by
  rw[hW1,knownG_zero]
  exact (MapB.made (w:=W0)).mono ((Below.refl _ _).alloc (Nat.le_refl _) _) (by simp)
 have hq1:W1.heap[W0.heap.size+1]?=some (.cells #[.map (some W0.heap.size)] 221 (0,0)):=by
  have h:=World.alloc_heap_new (W0.alloc (.map #[] 0)) (.cells #[.map (some W0.heap.size)] 221)
  rw[World.size_alloc] at h
  rw[hW1]
  exact h
 have hB1:Below W0.heap.size W0 W1:=by rw[hW1];exact ((Below.refl W0.heap.size W0).alloc (Nat.le_refl _) _).alloc (by simp) _
 rw[← hW1]
 have hw0:=fB.size
 obtain ⟨mb,hmb⟩:∃mb,mb=W0.heap.size:=⟨_,rfl⟩
 have HMB:=Lib.hid hmb
 rw[← hmb] at hM1 hq1 ⊢
 obtain ⟨bk,hbk⟩:∃bk,bk=mb+1:=⟨_,rfl⟩
 rw[← hbk] at hq1 ⊢
 have HBK:=Lib.hid hbk
 have HM1:=Lib.hid hM1
 have HQ1:=Lib.hid hq1
 have HB1:=Lib.hid hB1
 obtain ⟨x1,xl⟩:=HX.out _ hB1
 clear hW1 hM1 hq1 hB1 hmb hbk
 go_wp2_with fail
 clear x1 xl
 go_loopw [5,10] (fun _ iv wv=>∃(k:Nat),k≤n∧iv = .int .i64 k∧Hid (wv.heap[bk]?=some (.cells #[.map (some mb)] 221 (0,0)))∧Hid (MapB wv Tryz.prog 9 4 Lit.string mb k (knownG ls k))∧Below W0.heap.size W0 wv) (fun _ iv _=>n - (intOf iv).toNat)
 case atStart=>exact ⟨0,by omega,rfl,HQ1.out,HM1.out,HB1.out⟩
 case round =>
  obtain ⟨k,hk,rfl,hq,hM,hbr⟩:=hrel
  have hbw:=keep_trans fB hbr
  obtain ⟨x1,xl⟩:=HX.out _ hbr
  by_cases hlt:k<n
  ·have hki:(k:Int)<(n:Int):=by omega
   obtain ⟨b,off,al,nl,cl,rfl,hb,hc,hil,_⟩:=(H.out.mono hbw).2 k hlt
   have hln:=HL.out k hlt
   have HSK:=Lib.hid (knownG_succ (ls:=ls) (k:=k) (by rw[HLL.out];exact hlt))
   have hnl:=hil.len
   have HKY:=Lib.hid (fun W (hb:Below wr.heap.size wr W)=>gkey_c al nl cl (ls[k]?.getD []) W (hil.mono hb) (by omega) (fun j hj=>hln.2 _ (by rw[List.getElem?_eq_getElem (show j<(ls[k]?.getD []).length by omega)];exact List.getElem_mem _)))
   have HKO:Hid (keyOf Tryz.prog 9 (.string (strOfNums (ls[k]?.getD [])))=some (Lit.string (bytesL (ls[k]?.getD [])))):=Go.WideMaps.keyOf_string_mk Tryz.underlying9 (by rw[strOfNums_size];unfold maxLen;omega)
   have hml:=hM.out.lt
   have hql:=q_lt hq.out
   have q0:=q_cell hq.out 0
   have hzr:=hbr.size
   have hmk:mb≠bk:=by have:=HBK.out;omega
   have hmw:W0.heap.size≤mb:=by have:=HMB.out;omega
   clear hil hln hnl
   generalize ls[k]?.getD []=L at HSK HKY HKO
   go_upto_region 5 with fail
   refine wp_region_S (fun w'=>∃u,w'=over (wr) u) [4] [(0,0),(0,1),(0,2),(1,3),(2,4)] (by kernel_rfl) (by kernel_rfl) (by exact ⟨_,below_over (by repeat (first|assumption|exact Below.refl _ _|refine keep_drew ?_|refine keep_alloc ?_ _|refine keep_trans ?_ (by assumption)))⟩) ?_
   dsimp only[pickOps,nthOp]
   repeat (first|(refine wpS_skip rfl (fun K hK=>?_);go_big_quiet_op;refine hK _ ?_;clear hK K)|(refine wpS_quiet rfl rfl (fun K hK=>?_);go_big_quiet_op;refine hK _ ?_;clear hK K)|(refine wpS_loud ?_;go_wp2_with (first|(go_at_call 167;refine (HKY.out _ (keep_drew (Below.refl _ _))).mono ?_;rintro _ w5 ⟨rfl,hb5⟩)|(refine wpList_putB _ rfl _ _ _ 221 rfl 9 4 keyed_str Tryz.underlying221 Tryz.underlying4 Lit.string (fun x y h=>by injection h) mb k (knownG ls k) rfl (hM.out.mono (keep_trans (keep_drew (Below.refl _ _)) hb5) hml) (by unfold maxLen;omega) _ (bytesL L) true rfl rfl HKO.out ?_;intro w6 hM6 hg6));refine ⟨?_,?_⟩;focus (exact ⟨_,below_over (by repeat (first|assumption|exact Below.refl _ _|refine keep_drew ?_|refine keep_alloc ?_ _|refine keep_trans ?_ (by assumption)))⟩)))
   refine wpS_late _ _ _ rfl ?_
   dsimp only[List.map]
   go_wp2_with (first|(go_at_call 167;refine (HKY.out _ (keep_drew (Below.refl _ _))).mono ?_;rintro _ w5 ⟨rfl,hb5⟩)|(refine wpList_putB _ rfl _ _ _ 221 rfl 9 4 keyed_str Tryz.underlying221 Tryz.underlying4 Lit.string (fun x y h=>by injection h) mb k (knownG ls k) rfl (hM.out.mono (keep_trans (keep_drew (Below.refl _ _)) hb5) hml) (by unfold maxLen;omega) _ (bytesL L) true rfl rfl HKO.out ?_;intro w6 hM6 hg6))
   refine NoPanic.normal ?_
   rw[HSK.out] at hM6
   have hst:=Stays.grown (S:=fun q=>some mb=some q) hg6 (fun _ e=>e)
   have hB5:Below wr.heap.size wr w5:=keep_trans (keep_drew (Below.refl _ _)) hb5
   have HQ6:=Lib.hid (stays_q hst (keepq hB5 hq.out) (fun e=>by injection e with e;exact hmk e))
   have HM6:=Lib.hid hM6
   have HB6:Hid (Below W0.heap.size W0 w6):=(keep_trans hbr hB5).trans (hst.below (by have:=hB5.size;omega) (fun q e=>by injection e with e;omega))
   clear hM6 hg6 hst
   go_wp2_with fail
   go_roundw
   case rel=>exact ⟨k+1,by omega,by go_num,HQ6.out,HM6.out,HB6.out⟩
   case measure=>simp[intOf];omega
  ·have hki:¬(k:Int)<(n:Int):=by omega
   have e:k=n:=by omega
   subst k
   have hmk:bk≠mb:=by have:=HBK.out;omega
   have hmw:w.heap.size≤mb:=by have:=HMB.out;omega
   have hbw2:w.heap.size≤bk:=by have:=HBK.out;omega
   go_wp2_with fail
   go_ret
   unfold KeepOut
   exact ⟨bk,mb,rfl,⟨hq.out,hM.out⟩,hbw2,hmw,hmk,hbw⟩
theorem keeper1_c (bk mb n:Nat) (ls:List (List Int)) (ap:Option Addr) (np cp:Nat) (p:List Int) (al:Option Addr) (nl cl:Nat) (l:List Int) (w:World) (hK:KeeperC w bk mb n ls) (hlen:ls.length=n) (hls:∀l,l∈ls→∀x,x∈l→0≤x∧x<256) (hp:IC w ap np p) (hn:np≤256) (hpp:PermP p) (hl:IC w al nl l) (h1:1≤nl) (hnl:nl≤1000) (hb:∀k,k<nl→0≤l[k]?.getD 0∧l[k]?.getD 0<(np:Int)) :
  Calls Tryz.prog 168 #[.slice ap np cp,.slice al nl cl,.pointer (some ⟨bk,0,none⟩)] w fun e w'=>e = .returned (.bool (hasLineB ls (lineI p l)))∧Below w.heap.size w w':=by
 obtain ⟨i0,hi,hz0,hz1,hz2⟩:=info_parts infoInt
 have HP:=Lib.hid hp
 have HL:=Lib.hid hl
 have HB:=Lib.hid hb
 have hll:=hl.len
 obtain ⟨I,hI⟩:∃I:Nat→List Int,I=fun k=>(l.take k).map fun c=>p[c.toNat]?.getD 0:=⟨_,rfl⟩
 have HS:Hid (∀k,k<nl→(I (k+1)).map (Value.int .i64)=(I k).map (Value.int .i64)++[.int .i64 (p[(l[k]?.getD 0).toNat]?.getD 0)]):=fun k hk=>by
  rw[hI]
  simp only
  rw[take_snoc l 0 k (by omega),List.map_append,List.map_append]
  rfl
 have HZ:Hid (I 0=[]):=by unfold Hid;rw[hI];rfl
 have HLN:Hid ((I nl).length=nl):=by unfold Hid;rw[hI];simp only;rw[List.length_map,List.length_take];omega
 have HLI:Hid (srt (I nl)=lineI p l):=by unfold Hid lineI;rw[hI];simp only;rw[← hll,List.take_length]
 have hln:(lineI p l).length=nl:=by rw[← HLI.out];unfold srt;rw[List.length_mergeSort];exact HLN.out
 have hlb:∀x,x∈lineI p l→0≤x∧x<256:=by
  intro x hx
  unfold lineI srt at hx
  rw[(List.mergeSort_perm _ _).mem_iff,List.mem_map] at hx
  obtain ⟨c,hc,rfl⟩:=hx
  obtain ⟨k,hk,e⟩:=List.getElem_of_mem hc
  have h1:=hb k (by omega)
  rw[List.getElem?_eq_getElem hk,Option.getD_some,e] at h1
  have h2:=hpp.num c.toNat (by rw[hp.len];omega)
  rw[hp.len] at h2
  omega
 have HKH:Hid (knownG ls n (bytesL (lineI p l))=hasLineB ls (lineI p l)):=by unfold Hid;rw[← hlen];exact known_has hlb hls
 have HLB:Hid (∀k,k<nl→0≤(lineI p l)[k]?.getD 0∧(lineI p l)[k]?.getD 0<256):=fun k hk=>hlb _ (by rw[List.getElem?_eq_getElem (show k<(lineI p l).length by omega)];exact List.getElem_mem _)
 have HKO:Hid (keyOf Tryz.prog 9 (.string (strOfNums (lineI p l)))=some (Lit.string (bytesL (lineI p l)))):=Go.WideMaps.keyOf_string_mk Tryz.underlying9 (by rw[strOfNums_size];unfold maxLen;omega)
 have HN:=Lib.hid hln
 have HK:=Lib.hid hK
 generalize lineI p l=M at HLI HKH HLB HKO HN ⊢
 generalize hasLineB ls M=hv at HKH ⊢
 clear hI hlb hls hlen hpp hp hl hb hll hln hK
 unfold KeeperC at HK
 go_enter Tryz.func168,Tryz.ntmps168
 go_wp2_with fail
 go_loopw [6,8,11] (fun ov _ iv wr=>∃(k:Nat),k≤nl∧iv = .int .i64 k∧wr.ownsRow w.heap.size 3 1 ov k ((I k).map (Value.int .i64))∧Below w.heap.size w wr) (fun _ _ iv _=>nl - (intOf iv).toNat)
 case atStart=>exact ⟨0,by omega,rfl,by rw[HZ.out];exact World.ownsRow_nil _ _ _ _,Below.refl _ _⟩
 case round =>
  obtain ⟨k,hk,rfl,hown,hbr⟩:=hrel
  obtain ⟨ao,co,e9⟩:=owns_shape hown
  subst e9
  have hszr:=hbr.size
  by_cases hlt:k<nl
  ·have hki:(k:Int)<(nl:Int):=by omega
   obtain ⟨b,off,rfl,hbb,hc⟩:=(HL.out.mono hbr).2 k hlt
   have hlk:=HB.out k hlt
   have HSk:=Lib.hid (HS.out k hlt)
   obtain ⟨t,ht⟩:=Int.eq_ofNat_of_zero_le hlk.1
   rw[ht] at hlk hc HSk
   clear ht
   rw[Int.toNat_natCast] at HSk
   have hti:(t:Int)<(np:Int):=hlk.2
   have htn:t<np:=by omega
   obtain ⟨b2,off2,rfl,hb2,hc2⟩:=(HP.out.mono hbr).2 t htn
   generalize p[t]?.getD 0=x at hc2 HSk
   have HOW:=Lib.hid hown
   clear hown
   go_wp2_with (at_builtin;refine wpList_append_own _ rfl _ _ 25 rfl w.heap.size 3 i0 (.int .i64 0) 1 8 Tryz.underlying25 hi hz0 hz1 hz2 rfl (by decide) _ _ _ rfl (HOW.out.alloc _) ⟨wr.heap.size,0,none⟩ 1 1 [.int .i64 x] rfl rfl (cell_one_new _ _ _) (by simp[Value.oneCell']) (by unfold maxLen;omega) (by omega) (by simp;omega) ?_;intro v5 w5 hown5 hgrow _;have hs5:=grow_stays hgrow;have hb5:Below w.heap.size w w5:=hbr.trans (hs5.below hszr (fun k e=>owns_ge HOW.out e));rw[← HSk.out] at hown5;have HO5:=Lib.hid hown5;clear hown5 hgrow hs5)
   go_roundw
   case rel=>exact ⟨k+1,by omega,by go_num,HO5.out,hb5⟩
   case measure=>simp[intOf];omega
  ·have hki:¬(k:Int)<(nl:Int):=by omega
   have e:k=nl:=by omega
   subst k
   have hown':wr.ownsRow w.heap.size 3 1 (.slice ao nl co) (I nl).length ((I nl).map (Value.int .i64)):=by rw[HLN.out];exact hown
   have HSO:=Lib.hid (isort_c w.heap.size (.slice ao nl co) (I nl) wr hown' (by rw[HLN.out];exact h1) (by rw[HLN.out];omega))
   rw[HLI.out,HLN.out] at HSO
   have HOW:=Lib.hid hown
   clear hown hown'
   go_wp2_with fail
   refine HSO.out.mono ?_
   rintro _ w2 ⟨rfl,hown2,hst2⟩
   have hb2:Below w.heap.size w w2:=hbr.trans (hst2.below hszr (fun k e=>owns_ge HOW.out e))
   have hic2:IC w2 ao nl M:=by
    have h1:w2.ownsRow w.heap.size 3 1 (.slice ao M.length co) M.length (M.map (Value.int .i64)):=by rw[HN.out];exact hown2
    have h2:=(IC.of_owns h1 (by rw[HN.out];omega)).1
    rw[HN.out] at h2
    exact h2
   have HB2:=Lib.hid hb2
   have q0:=q_cell (keepq hb2 HK.out.1) 0
   have ql:=q_lt (keepq hb2 HK.out.1)
   have HKY:=Lib.hid (fun W (hb:Below w2.heap.size w2 W)=>gkey_c ao nl co M W (hic2.mono hb) hnl HLB.out)
   have hM2:=HK.out.2.mono hb2 HK.out.2.lt
   have HM2:=Lib.hid hM2
   have hml:=hM2.lt
   clear hown2 hst2 hic2 hM2 HSO
   go_upto_region 8 with fail
   refine wp_region_S (fun w'=>∃u,w'=over (w2) u) [5,4] [(0,0),(0,1),(0,2),(1,3),(2,4),(2,5)] (by kernel_rfl) (by kernel_rfl) (by exact ⟨_,below_over (by repeat (first|assumption|exact Below.refl _ _|refine keep_drew ?_|refine keep_alloc ?_ _|refine keep_trans ?_ (by assumption)))⟩) ?_
   dsimp only[pickOps,nthOp]
   repeat (first|(refine wpS_skip rfl (fun K hK=>?_);go_big_quiet_op;refine hK _ ?_;clear hK K)|(refine wpS_quiet rfl rfl (fun K hK=>?_);go_big_quiet_op;refine hK _ ?_;clear hK K)|(refine wpS_loud ?_;go_wp2_with (first|(go_at_call 167;refine (HKY.out _ (keep_drew (Below.refl _ _))).mono ?_;rintro _ w5 ⟨rfl,hb5⟩)|(refine wpList_lookB _ rfl _ _ 221 rfl 9 4 keyed_str Tryz.underlying221 Tryz.underlying4 (zero_bool _) Lit.string mb n (knownG ls n) rfl (HM2.out.mono (keep_trans (keep_drew (Below.refl _ _)) hb5) hml) _ (bytesL M) rfl HKO.out ?_;rw[HKH.out]));refine ⟨?_,?_⟩;focus (exact ⟨_,below_over (by repeat (first|assumption|exact Below.refl _ _|refine keep_drew ?_|refine keep_alloc ?_ _|refine keep_trans ?_ (by assumption)))⟩)))
   refine wpS_late _ _ _ rfl ?_
   dsimp only[List.map]
   go_wp2_with (first|(go_at_call 167;refine (HKY.out _ (keep_drew (Below.refl _ _))).mono ?_;rintro _ w5 ⟨rfl,hb5⟩)|(refine wpList_lookB _ rfl _ _ 221 rfl 9 4 keyed_str Tryz.underlying221 Tryz.underlying4 (zero_bool _) Lit.string mb n (knownG ls n) rfl (HM2.out.mono (keep_trans (keep_drew (Below.refl _ _)) hb5) hml) _ (bytesL M) rfl HKO.out ?_;rw[HKH.out]))
   refine NoPanic.normal ?_
   go_wp2_with fail
   go_ret
   exact ⟨rfl,hb2.trans ((keep_trans (keep_drew (Below.refl _ _)) hb5).mono hb2.size)⟩
end
section
open Go Go.RowKit Go.Maps
attribute [local go_sem] over_cell
attribute [local go_sem] Oper.semAt_some
theorem gkeeps_c {ls:List (List Int)} {sum:Int} {g:List Int} {np:Nat} (G:GoodTask (np:Int) ls sum g) (hs:sysErr (np:Int) ls=0) (a:Option Addr) (n c:Nat) (ap:Option Addr) (cap:Nat) (p:List Int) (cp:Bool) (w:World)
  (h:RC w a n ls) (hcap:n≤c) (hp:IC w ap np p) (hpe:permE p=0) :
  Calls Tryz.prog 28 #[.agg #[.int .i64 (np:Int),.slice a n c],.agg #[.slice ap np cap,.bool cp]] w fun e w'=>e = .returned (.tuple #[.bool (keepsB ls p),.int .i64 0])∧Below w.heap.size w w':=by
 have hn2:np≤256:=by have:=G.cells2;omega
 have hn128:n≤128:=by have:=G.lines;have:=h.len;omega
 have H:=Lib.hid h
 have HP:=Lib.hid hp
 have HLL:=Lib.hid h.len
 have HPP:=Lib.hid (perm_ok hpe).2
 have HSY:Hid (∀W,Below w.heap.size w W→Calls Tryz.prog 94 #[.agg #[.int .i64 (np:Int),.slice a n c]] W fun e w'=>e = .returned (.int .i64 0)∧Below W.heap.size W w'):=fun W hb=>by
  have:=sys_c a n c ls (np:Int) W (h.mono hb) hcap
  rw[hs] at this
  exact this
 have HCS:Hid (∀W,Below w.heap.size w W→Calls Tryz.prog 84 #[.agg #[.slice ap np cap,.bool cp],.int .i64 (np:Int)] W fun e w'=>e = .returned (.int .i64 0)∧Below W.heap.size W w'):=fun W hb=>by
  have:=gsym_c ap np cap p cp (np:Int) W (hp.mono hb)
  rw[symP_ok hp.len hpe] at this
  exact this
 have HLB:Hid (∀l,l∈ls→∀x,x∈l→0≤x∧x<256):=fun l hl x hx=>by have:=G.bnd hl x hx;omega
 have HKP:=Lib.hid (fun W (hb:Below w.heap.size w W)=>keeper_c a n c ls (np:Int) W (h.mono hb) hn128 (fun l hl=>⟨(G.lineLen hl).1,HLB.out l hl⟩))
 have HL:Hid (∀k,k<n→0<(ls[k]?.getD []).length∧(ls[k]?.getD []).length≤1000∧∀x,x∈ls[k]?.getD []→0≤x∧x<(np:Int)):=fun k hk=>by
  have hm:ls[k]?.getD []∈ls:=by rw[List.getElem?_eq_getElem (by rw[h.len];exact hk)];exact List.getElem_mem _
  exact ⟨G.some _ hm,(G.lineLen hm).1,G.bnd hm⟩
 have HNO:Hid (∀k,k<n→hasLineB ls (lineI p (ls[k]?.getD []))=false→keepsB ls p=false):=fun k hk h2=>keeps_no (by rw[h.len];exact hk) (by rw[img_line];exact h2)
 have HYES:Hid ((∀k,k<n→hasLineB ls (lineI p (ls[k]?.getD []))=true)→keepsB ls p=true):=fun h2=>keeps_yes (fun k hk=>by rw[img_line];exact h2 k (by rw[← h.len];exact hk))
 generalize keepsB ls p=kb at HNO HYES ⊢
 clear h hp hs hpe G
 go_enter Tryz.func28,Tryz.ntmps28
 go_upto_region 1 with fail
 have fsz:((w.alloc (.cells #[.int .i64 (np:Int),.slice a n c] 24)).alloc (.cells #[.slice ap np cap,.bool cp] 29)).heap.size=w.heap.size+2:=by simp only[World.size_alloc] <;> omega
 have fB:Below w.heap.size w ((w.alloc (.cells #[.int .i64 (np:Int),.slice a n c] 24)).alloc (.cells #[.slice ap np cap,.bool cp] 29)):=((Below.refl _ _).alloc (Nat.le_refl _) _).alloc (by simp only[World.size_alloc];omega) _
 have fq0:((w.alloc (.cells #[.int .i64 (np:Int),.slice a n c] 24)).alloc (.cells #[.slice ap np cap,.bool cp] 29)).heap[w.heap.size]?=some (.cells #[.int .i64 (np:Int),.slice a n c] 24 (0,0)):=by have h:=World.alloc_heap_new w (.cells #[.int .i64 (np:Int),.slice a n c] 24);exact (Below.heap_alloc _ _ _ (by simp only[World.size_alloc];omega)).trans (h)
 have fq1:((w.alloc (.cells #[.int .i64 (np:Int),.slice a n c] 24)).alloc (.cells #[.slice ap np cap,.bool cp] 29)).heap[w.heap.size+1]?=some (.cells #[.slice ap np cap,.bool cp] 29 (0,0)):=by have h:=World.alloc_heap_new (w.alloc (.cells #[.int .i64 (np:Int),.slice a n c] 24)) (.cells #[.slice ap np cap,.bool cp] 29);simp only[World.size_alloc] at h;exact h
 generalize ((w.alloc (.cells #[.int .i64 (np:Int),.slice a n c] 24)).alloc (.cells #[.slice ap np cap,.bool cp] 29))=W0 at fsz fB fq0 fq1 ⊢
 have HX:=Lib.hid (fun W (hb:Below W0.heap.size W0 W)=>(And.intro (q_cell (keepq hb fq0) 0) (And.intro (q_cell (keepq hb fq0) 1) (q_lt (keepq hb fq0))):W.cell? ⟨w.heap.size,0,none⟩=some (.int .i64 (np:Int))∧W.cell? ⟨w.heap.size,1,none⟩=some (.slice a n c)∧w.heap.size<W.heap.size))
 have HY:=Lib.hid (fun W (hb:Below W0.heap.size W0 W)=>(And.intro (q_cell (keepq hb fq1) 0) (And.intro (q_cell (keepq hb fq1) 1) (q_lt (keepq hb fq1))):W.cell? ⟨w.heap.size+1,0,none⟩=some (.slice ap np cap)∧W.cell? ⟨w.heap.size+1,1,none⟩=some (.bool cp)∧w.heap.size+1<W.heap.size))
 obtain ⟨x0,x1,xl⟩:=HX.out _ (Below.refl _ _)
 obtain ⟨y0,y1,yl⟩:=HY.out _ (Below.refl _ _)
 clear fq0 fq1 fsz
 refine wp_region_S (fun w'=>∃u,w'=over (W0) u) [8,7,6,5] [(0,0),(0,2),(0,3),(0,4),(1,1),(2,5),(2,6),(2,7),(2,8)] (by kernel_rfl) (by kernel_rfl) (by exact ⟨_,below_over (by repeat (first|assumption|exact Below.refl _ _|refine keep_drew ?_|refine keep_alloc ?_ _|refine keep_trans ?_ (by assumption)))⟩) ?_
 dsimp only[pickOps,nthOp]
 repeat (first|(refine wpS_skip rfl (fun K hK=>?_);go_big_quiet_op;refine hK _ ?_;clear hK K)|(refine wpS_quiet rfl rfl (fun K hK=>?_);go_big_quiet_op;refine hK _ ?_;clear hK K)|(refine wpS_loud ?_;go_wp2_with (first|(go_at_call 94;refine (HSY.out _ (keep_trans fB (keep_drew (Below.refl _ _)))).mono ?_;rintro _ w1 ⟨rfl,hb1⟩)|(go_at_call 84;refine (HCS.out _ (keep_trans fB (keep_trans (keep_drew (Below.refl _ _)) hb1))).mono ?_;rintro _ w2 ⟨rfl,hb2⟩)|(go_at_call 93;refine (gfirst_c _ _ _ _ _ (IC.new2 _ _ _ _)).mono ?_;rintro _ w4 ⟨rfl,rfl⟩));refine ⟨?_,?_⟩;focus (exact ⟨_,below_over (by repeat (first|assumption|exact Below.refl _ _|refine keep_drew ?_|refine keep_alloc ?_ _|refine keep_trans ?_ (by assumption)))⟩)))
 refine wpS_late _ _ _ rfl ?_
 dsimp only[List.map]
 go_wp2_with (first|(go_at_call 94;refine (HSY.out _ (keep_trans fB (keep_drew (Below.refl _ _)))).mono ?_;rintro _ w1 ⟨rfl,hb1⟩)|(go_at_call 84;refine (HCS.out _ (keep_trans fB (keep_trans (keep_drew (Below.refl _ _)) hb1))).mono ?_;rintro _ w2 ⟨rfl,hb2⟩)|(go_at_call 93;refine (gfirst_c _ _ _ _ _ (IC.new2 _ _ _ _)).mono ?_;rintro _ w4 ⟨rfl,rfl⟩))
 refine NoPanic.normal ?_
 have hz:firstL [0,0]=0:=rfl
 rw[hz]
 have hb5:Below W0.heap.size W0 (w2.alloc (.cells #[.int .i64 0,.int .i64 0] 34)):=keep_alloc (keep_trans (keep_trans (keep_drew (Below.refl _ _)) hb1) hb2) _
 generalize (w2.alloc (.cells #[.int .i64 0,.int .i64 0] 34))=w5 at hb5 ⊢
 clear x0 x1 xl y0 y1 yl hb1 hb2
 obtain ⟨x0,x1,xl⟩:=HX.out _ hb5
 go_wp2_with fail
 refine (HKP.out _ (keep_trans fB hb5)).mono ?_
 rintro _ w6 ⟨bk,mb,rfl,hK6,hbk,hmb,hne,hb6⟩
 have HK6:=Lib.hid hK6
 have HB6:=Lib.hid (keep_trans hb5 hb6)
 clear x0 x1 xl hb5 hK6
 obtain ⟨x0,x1,xl⟩:=HX.out _ HB6.out
 unfold keeperV
 go_wp2_with fail
 clear x0 x1 xl
 go_loopw [9,26] (fun _ iv wr=>∃(k:Nat),k≤n∧iv = .int .i64 k∧Hid (∀j,j<k→hasLineB ls (lineI p (ls[j]?.getD []))=true)∧Below w6.heap.size w6 wr) (fun _ iv _=>n - (intOf iv).toNat)
 case atStart=>exact ⟨0,by omega,rfl,fun j hj=>by omega,Below.refl _ _⟩
 case round =>
  obtain ⟨k,hk,rfl,hup,hbr⟩:=hrel
  have hB0:=keep_trans HB6.out hbr
  have hbw:=keep_trans fB hB0
  obtain ⟨y0,y1,yl⟩:=HY.out _ hB0
  by_cases hlt:k<n
  ·have hki:(k:Int)<(n:Int):=by omega
   obtain ⟨b,off,al,nl,cl,rfl,hb,hc,hil,_⟩:=(H.out.mono hbw).2 k hlt
   obtain ⟨hl1,hl2,hl3⟩:=HL.out k hlt
   have hnl:=hil.len
   have HK1:=Lib.hid (keeper1_c bk mb n ls ap np cap p al nl cl (ls[k]?.getD []) wr ⟨keepq hbr HK6.out.1,HK6.out.2.mono hbr HK6.out.2.lt⟩ HLL.out HLB.out (HP.out.mono hbw) hn2 HPP.out hil (by omega) (by omega) (fun j hj=>hl3 _ (by rw[List.getElem?_eq_getElem (show j<(ls[k]?.getD []).length by omega)];exact List.getElem_mem _)))
   have HNOk:=Lib.hid (HNO.out k hlt)
   have HUPk:Hid (hasLineB ls (lineI p (ls[k]?.getD []))=true→∀j,j<k+1→hasLineB ls (lineI p (ls[j]?.getD []))=true):=fun h j hj=>by
    by_cases e:j=k
    ·rw[e];exact h
    ·exact hup.out j (by omega)
   clear hil hl1 hl2 hl3 hnl
   generalize hasLineB ls (lineI p (ls[k]?.getD []))=hv at HK1 HNOk HUPk
   go_wp2_with fail
   refine HK1.out.mono ?_
   rintro _ w7 ⟨rfl,hb7⟩
   have HB7:=Lib.hid (keep_trans hbr hb7)
   cases hv with
   | true =>
    have HU:=Lib.hid (HUPk.out rfl)
    go_wp2_with fail
    go_roundw
    case rel=>exact ⟨k+1,by omega,by go_num,HU.out,HB7.out⟩
    case measure=>simp[intOf];omega
   | false =>
    have HN:=Lib.hid (HNOk.out rfl)
    go_wp2_with fail
    go_ret2
    exact ⟨by rw[HN.out];rfl,keep_trans fB (keep_trans HB6.out HB7.out)⟩
  ·have hki:¬(k:Int)<(n:Int):=by omega
   have e:k=n:=by omega
   subst k
   have HN:=Lib.hid (HYES.out hup.out)
   go_wp2_with fail
   go_ret2
   exact ⟨by rw[HN.out];rfl,hbw⟩
end
section
open Go Go.RowKit
theorem uniq_vals {cells:Int} {ls:List (List Int)} {sum:Int} {g:List Int} (hs:smallErr cells ls sum g=0):uniqE cells ls sum g=(if (solsL ls sum g []).length=0 then 21 else if (solsL ls sum g []).length=1 then 0 else 22)∧((solsL ls sum g []).length=1→uniqL cells ls sum g=(solsL ls sum g [])[0]?.getD []):=by
 have h2:(twoL ls sum g).length=min 2 (solsL ls sum g []).length:=by unfold twoL;rw[List.length_take]
 constructor
 ·unfold uniqE
  rw[hs,if_neg (by decide),h2]
  by_cases h0:(solsL ls sum g []).length=0
  ·rw[if_pos (by omega),if_pos h0]
  ·rw[if_neg (by omega),if_neg h0]
   by_cases h1:(solsL ls sum g []).length=1
   ·rw[if_pos (by omega),if_pos h1]
   ·rw[if_neg (by omega),if_neg h1]
 ·intro h1
  unfold uniqL
  rw[hs,if_neg (by decide),h2,if_pos (by omega)]
  unfold twoL
  rw[List.getElem?_take,if_pos (by decide)]
theorem mv_len {n':Nat} {ls:List (List Int)} {sum:Int} {g:List Int} {cp:Bool} {p:List Int} (M:MvF n' ls sum g cp p) (h6:(openL g).length≤6):(solsL (ls.map (lineI p)) (cmS cp (n':Int) (lenV ls) sum) (movG cp p g) []).length=(solsL ls sum g []).length:=by
 have h1:=count_ok M.err (by have:=M.open5;omega)
 have h2:=M.cntN
 rw[h1.2.1] at h2
 omega
theorem mv_uniq {n':Nat} {ls:List (List Int)} {sum:Int} {g:List Int} {cp:Bool} {p:List Int} (G:GoodTask (n':Int) ls sum g) (hte:taskErr (n':Int) ls sum g=0) (M:MvF n' ls sum g cp p) (h6:(openL g).length≤6) :
  uniqE (n':Int) (ls.map (lineI p)) (cmS cp (n':Int) (lenV ls) sum) (movG cp p g)=uniqE (n':Int) ls sum g ∧
  ((uniqE (n':Int) ls sum g=21∧(solsL ls sum g []).length=0) ∨
   (uniqE (n':Int) ls sum g=0∧SolF ls sum g (uniqL (n':Int) ls sum g)∧uniqL (n':Int) (ls.map (lineI p)) (cmS cp (n':Int) (lenV ls) sum) (movG cp p g)=movF cp p (uniqL (n':Int) ls sum g)) ∨
   uniqE (n':Int) ls sum g=22):=by
 have hs:=small_zero hte (by omega)
 have hs':=small_zero M.err (by have:=M.open5;omega)
 obtain ⟨u1,u2⟩:=uniq_vals hs
 obtain ⟨v1,v2⟩:=uniq_vals hs'
 have hl:=mv_len M h6
 rw[hl] at v1 v2
 refine ⟨by rw[u1,v1],?_⟩
 by_cases h0:(solsL ls sum g []).length=0
 ·exact .inl ⟨by rw[u1,if_pos h0],h0⟩
 ·by_cases h1:(solsL ls sum g []).length=1
  ·refine .inr (.inl ⟨by rw[u1,if_neg h0,if_pos h1],?_,?_⟩)
   ·rw[u2 h1]
    refine (mem_sols G).1 ?_
    rw[List.getElem?_eq_getElem (by omega)]
    exact List.getElem_mem _
   ·rw[v2 h1,u2 h1]
    have hm:(solsL ls sum g [])[0]?.getD []∈solsL ls sum g []:=by rw[List.getElem?_eq_getElem (by omega)];exact List.getElem_mem _
    have h3:=(mem_sols M.good).2 (M.sol _ ((mem_sols G).1 hm)).1
    generalize movF cp p ((solsL ls sum g [])[0]?.getD [])=y at h3 ⊢
    generalize solsL (ls.map (lineI p)) (cmS cp (n':Int) (lenV ls) sum) (movG cp p g) []=L at h3 hl ⊢
    match L,hl with
    | [],h=>simp at h;omega
    | [z],_=>simp at h3;rw[h3];rfl
    | _ :: _ :: _,h=>simp at h;omega
  ·exact .inr (.inr (by rw[u1,if_neg h0,if_neg h1]))
theorem mv_ref {n':Nat} {ls:List (List Int)} {sum:Int} {g:List Int} {cp:Bool} {p:List Int} (hgl:g.length=n') (M:MvF n' ls sum g cp p) (h0:(solsL ls sum g []).length=0) :
  refErr (n':Int) (ls.map (lineI p)) (cmS cp (n':Int) (lenV ls) sum) (movG cp p g) (movT ls sum cp p ((openL g).length+1) g)=0:=by
 obtain ⟨_,h2,h3⟩:=M.img h0
 unfold refErr
 rw[movG_len,hgl,if_neg (by simpa using M.err),if_neg (by simpa using h2),h3]
 rfl
end
end Go.Proofs.YtaadpihbjhachaaGreat
