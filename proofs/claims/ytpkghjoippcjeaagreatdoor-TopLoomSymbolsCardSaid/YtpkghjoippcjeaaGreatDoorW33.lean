/- Texts U4 to U5 of this proof, in one file. -/
import Derived.Test.YtpkghjoippcjeaaGreatDoorW03
import Derived.RangeFuncBox
import Derived.RangeFuncLeaves
import Derived.RangeFuncWrites
import Derived.Shelf.SortM.Plain
import Derived.Lib.SlKeysI
namespace Go.Proofs.YtpkghjoippcjeaaGreatDoor
set_option maxRecDepth 100000
set_option maxHeartbeats 16000000
section
open Go Go.RowKit Go.Shelf
attribute [local go_sem] Oper.semAt_some
def vTo (f:Nat→Int) (k:Nat):List Int:=(List.range k).map f
theorem vTo_succ (f:Nat→Int) (k:Nat):vTo f (k+1)=vTo f k++[f k]:=by simp[vTo,List.range_succ]
theorem vTo_length (f:Nat→Int) (k:Nat):(vTo f k).length=k:=by simp[vTo]
theorem vTo_all (zs:List Int):vTo (fun j=>zs[j]?.getD 0) zs.length=zs:=by
 apply List.ext_getElem
 ·simp[vTo]
 ·intro i h1 h2
  simp[vTo,h2]
theorem vTo_take (zs:List Int) {k:Nat} (hk:k≤zs.length):vTo (fun j=>zs[j]?.getD 0) k=zs.take k:=by
 apply List.ext_getElem
 ·simp[vTo,hk]
 ·intro i h1 h2
  have:i<zs.length:=by simp[vTo] at h1;omega
  simp[vTo,this]
theorem vals1_in (F:Fence) (n:Nat) (h7:F.fn 75) (hro:F.round=none) (hn:1≤n) (l Bs n₀ b off len cap:Nat) (zs:List Int) (hreach:len*8≤140737488351232) (hb:b<n₀) (J Jx:List Int→World→Prop)
  (hY:∀pre x W,J pre W→pre.length<len→YieldAt F (n - 1) Tryz.prog l #[.int .i64 x] W fun e W' =>
   (e = .returned (.bool true)∧J (pre++[x]) W'∧Below n₀ W W')∨(e = .returned (.bool false)∧Jx (pre++[x]) W'))
  (W:World) (hBs:W.cell? ⟨Bs,0,none⟩=some (.slice (some ⟨b,off,none⟩) len cap)) (hc:∀j,j<len→W.cell? ⟨b,off+j,none⟩=some (.int .i64 (zs[j]?.getD 0))) (h0:J [] W) :
  CallsIn F n Tryz.prog 75 #[.func (.yield l) #[] #[],.pointer (some ⟨Bs,0,none⟩)] W fun e W'=>(∃v,e = .returned v) ∧
   ((∃ys,ys=vTo (fun j=>zs[j]?.getD 0) len∧J ys W')∨(∃pre,(∃k,k≤len∧pre=vTo (fun j=>zs[j]?.getD 0) k)∧Jx pre W')):=by
 refine callsIn_of_wp Tryz.func75 rfl h7 ?_ hro
 simp only[Tryz.ntmps75,List.size_toArray,List.length_cons,List.length_nil,Nat.reduceAdd,Nat.reduceSub,Array.replicate_succ,Array.replicate_zero,List.push_toArray,List.append_toArray,List.nil_append,List.cons_append]
 gi_wp2
 gi_loopw [7] (fun i wr=>∃k:Nat,k≤len∧i = .int .i64 k∧J (vTo (fun j=>zs[j]?.getD 0) k) wr∧Below n₀ W wr)
  (fun i _=>len - (intOf i).toNat)
 case atStart=>exact ⟨0,Nat.zero_le _,rfl,h0,Below.refl _ _⟩
 case round =>
  obtain ⟨k,hk,rfl,hJs,hnx⟩:=hrel
  have hcx:k<len→wr.cell? ⟨b,off+k,none⟩=some (.int .i64 (zs[k]?.getD 0)):=fun h=>(hnx.cell (p:=⟨b,off+k,none⟩) hb).trans (hc k h)
  by_cases hlt:k<len
  ·obtain ⟨fn,tmps,assign,body,hy,hR⟩:=hY _ (zs[k]?.getD 0) wr hJs (by rw[vTo_length];exact hlt)
   have hcx':=hcx hlt
   gi_wp2
   refine hR.mono ?_
   rintro e W3 (⟨rfl,hJ3,hk3⟩|⟨rfl,hJx3⟩)
   ·gi_wp2
    go_roundw
    case rel=>exact ⟨k+1,by omega,by simp,by rw[vTo_succ];exact hJ3,hnx.trans hk3⟩
    case measure=>simp[intOf];omega
   ·gi_wp2
    refine bodyPost_ret (results_none rfl _ _ _) rfl ?_
    exact ⟨⟨_,rfl⟩,.inr ⟨_,⟨k+1,by omega,(vTo_succ _ _).symm⟩,hJx3⟩⟩
  ·obtain rfl:k=len:=by omega
   gi_wp2
   go_end0
   exact ⟨⟨_,rfl⟩,.inl ⟨_,rfl,hJs⟩⟩
theorem vals_stops (F:Fence) (n:Nat) (h7:F.fn 75) (hro:F.round=none) (hn:1≤n) (Bs n₀ b off cap:Nat) (zs:List Int) (hreach:zs.length*8≤140737488351232) (w:World) (hBs:Bs<w.heap.size) (hn₀:n₀≤w.heap.size) (hb:b<n₀)
  (hc:w.cell? ⟨Bs,0,none⟩=some (.slice (some ⟨b,off,none⟩) zs.length cap)) (hI:∀j,j<zs.length→w.cell? ⟨b,off+j,none⟩=some (.int .i64 (zs[j]?.getD 0))) :
  SeqStopsK F n Tryz.prog 75 #[.pointer (some ⟨Bs,0,none⟩)] (fun x:Int=>#[Value.int .i64 x]) (Below n₀) (fun ys=>ys=zs) (fun pre=>pre <+: zs) zs.length w:=fun l J Jx W hW _ _ hY h0=>by
 have hc':=(hW.cell (p:=⟨Bs,0,none⟩) hBs).trans hc
 refine (vals1_in F n h7 hro hn l Bs n₀ b off zs.length cap zs hreach hb J Jx hY W hc' (fun j hj=>(hW.cell (p:=⟨b,off+j,none⟩) (by show b<w.heap.size;omega)).trans (hI j hj)) h0).mono ?_
 rintro e W' ⟨he,⟨ys,rfl,hj⟩|⟨pre,⟨k,hk,rfl⟩,hj⟩⟩
 ·exact ⟨he,.inl ⟨_,vTo_all zs,hj⟩⟩
 ·exact ⟨he,.inr ⟨_,by rw[vTo_take zs hk];exact List.take_prefix _ _,hj⟩⟩
def AI (b:Nat) (pre:List Int) (W:World):Prop:=∃v,W.heap[b]?=some (.cells #[v] 22 (0,0))∧W.ownsRow (b+1) 3 1 v pre.length (pre.map (Value.int .i64))
theorem own_AI (b:Nat):Own (AI b):=by
 rintro pre A B row ⟨v,hq,hown⟩ hg hr
 refine ⟨v,(grownBy_keeps_cells hg hr hq rfl).trans hq,owns_keep hown (fun k e hlt=>?_)⟩
 obtain ⟨o,ho⟩:∃o,A.heap[k]?=some o:=⟨_,Array.getElem?_eq_getElem hlt⟩
 exact grownBy_keeps_cells hg hr ho (owns_cells hown e ho)
theorem appseq_in (F:Fence) (n:Nat) (hA:F.fn 82) (hV:F.fn 75) (hro:F.round=none) (hn:3≤n) (Bs b off cap:Nat) (zs:List Int) (hreach:zs.length≤100000) (w:World) (hBs:Bs<w.heap.size) (hb:b<w.heap.size)
  (hc:w.cell? ⟨Bs,0,none⟩=some (.slice (some ⟨b,off,none⟩) zs.length cap)) (hI:∀j,j<zs.length→w.cell? ⟨b,off+j,none⟩=some (.int .i64 (zs[j]?.getD 0))) :
  CallsIn F n Tryz.prog 82 #[.slice none 0 0,.func (.func 75) #[] #[.pointer (some ⟨Bs,0,none⟩)]] w fun e W'=>∃v,e = .returned v∧W'.ownsRow w.heap.size 3 1 v zs.length (zs.map (Value.int .i64))∧Below w.heap.size w W':=by
 have h1:1≤n:=by omega
 obtain ⟨i0,hi,hz0,hz1,hz2⟩:=info_parts infoInt
 have fB:Below w.heap.size w (w.alloc (.cells #[.slice none 0 0] 22)):=(Below.refl _ _).alloc (Nat.le_refl _) _
 have fq:(w.alloc (.cells #[.slice none 0 0] 22)).heap[w.heap.size]?=some (.cells #[.slice none 0 0] 22 (0,0)):=World.alloc_heap_new _ _
 refine callsIn_of_wp_marks Tryz.func82 rfl hA ?_ hro
 simp only[Tryz.ntmps82,List.size_toArray,List.length_cons,List.length_nil,Nat.reduceAdd,Nat.reduceSub,Array.replicate_succ,Array.replicate_zero,List.push_toArray,List.append_toArray,List.nil_append,List.cons_append]
 gi_wp2
 refine wpIn_rangeFunc_ownG hro h1 (gf:=75) (lb:=#[.pointer (some ⟨Bs,0,none⟩)]) rfl hV (enters_of Tryz.func75 (by kernel_rfl) rfl)
  (vals_stops F (n - 1) hV hro (by omega) Bs w.heap.size b off cap zs (by omega) _ (by simp;omega) (by simp) hb ((fB.cell (p:=⟨Bs,0,none⟩) hBs).trans hc) (fun j hj=>(fB.cell (p:=⟨b,off+j,none⟩) hb).trans (hI j hj))) belowK_t (belowK_b (by simp)) (Below.refl _ _) (fun _=>rfl)
  (fun pre W=>AI w.heap.size pre W∧Below w.heap.size w W) (fun _ _ _=>False)
  (OwnFrom.and (Own.from (own_AI _) _) (ownFrom_below (Nat.le_refl _) (by simp)))
  (fun _ _ _ _ _ hs _ _=>hs) ⟨⟨_,fq,World.ownsRow_nil _ _ _ _⟩,fB⟩ ?act ?assign ?body ?done ?stop
 case assign =>
  intro l x W K hK
  gi_wp2
  exact hK
 case body =>
  rintro l pre x W ⟨⟨v,hq,hown⟩,hB⟩ hlt
  obtain ⟨av,cv,rfl⟩:=owns_shape hown
  have c0:=q_cell hq 0
  have f0:=q_free hq 0
  have hsz:=hB.size
  have hql:=q_lt hq
  have hne:¬(Value.slice av pre.length cv).ownBlock=some w.heap.size:=fun e=>by have:=(hown.lt _ e).1;omega
  gi_wp2_with (gi_at_builtin;refine wpListIn_append_own_at _ rfl _ _ 22 rfl (w.heap.size+1) 3 i0 (.int .i64 0) 1 8 Tryz.underlying22 hi hz0 hz1 hz2 rfl (by decide) (.slice av pre.length cv) _ _ rfl (hown.alloc _) ⟨W.heap.size,0,none⟩ 1 1 [.int .i64 x] rfl rfl (cell_one_new _ _ _) (by simp[Value.oneCell']) (by unfold maxLen;omega) (by omega) (by simp;omega) ?_;intro v' w1 hown' hgrow _ hnew';obtain ⟨av',cv',rfl⟩:=owns_shape hown';have hs2:=grow_stays hgrow;have q5':=hs2.q hq hne;have c5':=q_cell q5' 0;have f5':=q_free q5' 0)
  have hne':(Value.slice av' (pre.length+1) cv').ownBlock≠some w.heap.size:=fun e=>by have:=(hown'.lt _ e).1;omega
  have hown2:=ownsRow_setCell_other hown' (a:=⟨w.heap.size,0,none⟩) hne' (.slice av' (pre.length+1) cv')
  have hbl:Below w.heap.size W (w1.setCell ⟨w.heap.size,0,none⟩ (.slice av' (pre.length+1) cv')):=(hs2.below (B:=w.heap.size) hsz (fun k e=>by have:=(hown.lt k e).1;omega)).setCell (p:=⟨w.heap.size,0,none⟩) (Nat.le_refl _) _
  exact ⟨(((KeepsOthers.alloc W _).trans (KeepsOthers.of_grownBy hgrow (fun j o e ho=>owns_cells (hown.alloc _) e ho))).trans (KeepsOthers.setCell _ _ _)).from _,hbl,⟨_,q_set q5' _,by rw[List.length_append,List.map_append];exact hown2⟩,hB.trans hbl⟩
 case done =>
  rintro D ys W hD rfl ⟨⟨v,hq,hown⟩,hB⟩ hK
  have c0:=q_cell hq 0
  have hk:∀(o':Obj) (k:Nat) (o:Obj),W.heap[k]?=some o→o.isCells=true→(W.putObj D o').heap[k]?=W.heap[k]?:=fun o' k o ho hc=>grownBy_keeps_cells (grownBy_putObj' W D o') (fun r e=>by cases e;exact ⟨_,hK,rfl⟩) ho hc
  gi_wp2
  refine ⟨by simp,.inl ⟨_,_,rfl,run_takeDeferred hK,?_⟩⟩
  refine ⟨_,results_tmp rfl _ _ _,v,rfl,owns_keep (owns_base hown (by omega)) (fun k e hlt=>?_),hB.trans (belowK_b (w:=w) (Nat.le_refl _) W D _ _ (by simp at hD;omega) hK rfl rfl)⟩
  exact hk _ k _ (Array.getElem?_eq_getElem hlt) (owns_cells hown e (Array.getElem?_eq_getElem hlt))
 case stop =>
  rintro D c pre W _ _ h _
  exact h.elim
end
section
open Go Go.RowKit Go.Shelf Go.Sort
attribute [local go_sem] Oper.semAt_some
def sortA_ren:Go.Shelf.Ren:=⟨fun|5=>74|8=>84|7=>83|19=>98|20=>99|10=>89|11=>90|12=>91|13=>92|14=>93|15=>94|16=>95|17=>96|18=>97|30=>103|31=>104|32=>105|33=>106|34=>107|35=>108|40=>115|n=>n,fun|23=>22|25=>3|3=>3|32=>96|22=>22|0=>0|44=>120|46=>123|4=>4|36=>145|35=>144|41=>116|5=>5|9=>9|53=>155|57=>159|63=>168|64=>169|n=>n,fun|n=>n⟩
theorem sortA:Go.Proofs.SlLaysM.n5 Tryz.prog sortA_ren where
 mixed:=by kernel_rfl
 f5:=⟨Tryz.f74.name,by kernel_rfl,Tryz.func74.trans (congrArg some (by kernel_rfl))⟩
 f7:=⟨Tryz.f83.name,by kernel_rfl,Tryz.func83.trans (congrArg some (by kernel_rfl))⟩
 f8:=Tryz.func84.trans (congrArg some (by kernel_rfl))
 f10:=⟨Tryz.f89.name,by kernel_rfl,Tryz.func89.trans (congrArg some (by kernel_rfl))⟩
 f11:=⟨Tryz.f90.name,by kernel_rfl,Tryz.func90.trans (congrArg some (by kernel_rfl))⟩
 f12:=⟨Tryz.f91.name,by kernel_rfl,Tryz.func91.trans (congrArg some (by kernel_rfl))⟩
 f13:=⟨Tryz.f92.name,by kernel_rfl,Tryz.func92.trans (congrArg some (by kernel_rfl))⟩
 f14:=⟨Tryz.f93.name,by kernel_rfl,Tryz.func93.trans (congrArg some (by kernel_rfl))⟩
 f15:=⟨Tryz.f94.name,by kernel_rfl,Tryz.func94.trans (congrArg some (by kernel_rfl))⟩
 f16:=⟨Tryz.f95.name,by kernel_rfl,Tryz.func95.trans (congrArg some (by kernel_rfl))⟩
 f17:=⟨Tryz.f96.name,by kernel_rfl,Tryz.func96.trans (congrArg some (by kernel_rfl))⟩
 f18:=⟨Tryz.f97.name,by kernel_rfl,Tryz.func97.trans (congrArg some (by kernel_rfl))⟩
 f19:=Tryz.func98.trans (congrArg some (by kernel_rfl))
 f20:=Tryz.func99.trans (congrArg some (by kernel_rfl))
 f30:=⟨Tryz.f103.name,by kernel_rfl,Tryz.func103.trans (congrArg some (by kernel_rfl))⟩
 f31:=Tryz.func104.trans (congrArg some (by kernel_rfl))
 f32:=Tryz.func105.trans (congrArg some (by kernel_rfl))
 f33:=⟨Tryz.f106.name,by kernel_rfl,Tryz.func106.trans (congrArg some (by kernel_rfl))⟩
 f34:=⟨Tryz.f107.name,by kernel_rfl,Tryz.func107.trans (congrArg some (by kernel_rfl))⟩
 f35:=⟨Tryz.f108.name,by kernel_rfl,Tryz.func108.trans (congrArg some (by kernel_rfl))⟩
 f40:=⟨Tryz.f115.name,by kernel_rfl,Tryz.func115.trans (congrArg some (by kernel_rfl))⟩
 t0:=Tryz.underlying0
 a0:=Tryz.isAgg0
 z0:=Tryz.sizeOf0
 v0:=Tryz.zeroValue0
 t3:=Tryz.underlying3
 a3:=Tryz.isAgg3
 z3:=Tryz.sizeOf3
 v3:=Tryz.zeroValue3
 t4:=Tryz.underlying4
 a4:=Tryz.isAgg4
 z4:=Tryz.sizeOf4
 v4:=Tryz.zeroValue4
 t5:=Tryz.underlying5
 a5:=Tryz.isAgg5
 z5:=Tryz.sizeOf5
 v5:=Tryz.zeroValue5
 t9:=Tryz.underlying9
 a9:=Tryz.isAgg9
 z9:=Tryz.sizeOf9
 v9:=Tryz.zeroValue9
 t22:=Tryz.underlying22
 a22:=Tryz.isAgg22
 z22:=Tryz.sizeOf22
 v22:=Tryz.zeroValue22
 t23:=Tryz.underlying22
 a23:=Tryz.isAgg22
 z23:=Tryz.sizeOf22
 v23:=Tryz.zeroValue22
 t25:=Tryz.underlying3
 a25:=Tryz.isAgg3
 z25:=Tryz.sizeOf3
 v25:=Tryz.zeroValue3
 t32:=Tryz.underlying96
 a32:=Tryz.isAgg96
 z32:=Tryz.sizeOf96
 v32:=Tryz.zeroValue96
 t35:=Tryz.underlying144
 a35:=Tryz.isAgg144
 z35:=Tryz.sizeOf144
 v35:=Tryz.zeroValue144
 t36:=Tryz.underlying145
 a36:=Tryz.isAgg145
 z36:=Tryz.sizeOf145
 v36:=Tryz.zeroValue145
 t41:=Tryz.underlying116
 a41:=Tryz.isAgg116
 z41:=Tryz.sizeOf116
 v41:=Tryz.zeroValue116
 t44:=Tryz.underlying120
 a44:=Tryz.isAgg120
 z44:=Tryz.sizeOf120
 v44:=Tryz.zeroValue120
 t46:=Tryz.underlying123
 a46:=Tryz.isAgg123
 z46:=Tryz.sizeOf123
 v46:=Tryz.zeroValue123
 t53:=Tryz.underlying155
 a53:=Tryz.isAgg155
 z53:=Tryz.sizeOf155
 v53:=Tryz.zeroValue155
 t57:=Tryz.underlying159
 a57:=Tryz.isAgg159
 z57:=Tryz.sizeOf159
 v57:=Tryz.zeroValue159
 t63:=Tryz.underlying168
 a63:=Tryz.isAgg168
 z63:=Tryz.sizeOf168
 v63:=Tryz.zeroValue168
 t64:=Tryz.underlying169
 a64:=Tryz.isAgg169
 z64:=Tryz.sizeOf169
 v64:=Tryz.zeroValue169
theorem appseq_c (Bs b off cap:Nat) (zs:List Int) (hreach:zs.length≤100000) (w:World) (hBs:Bs<w.heap.size) (hb:b<w.heap.size)
  (hc:w.cell? ⟨Bs,0,none⟩=some (.slice (some ⟨b,off,none⟩) zs.length cap)) (hI:∀j,j<zs.length→w.cell? ⟨b,off+j,none⟩=some (.int .i64 (zs[j]?.getD 0))) :
  Calls Tryz.prog 82 #[.slice none 0 0,.func (.func 75) #[] #[.pointer (some ⟨Bs,0,none⟩)]] w fun e W'=>∃v,e = .returned v∧W'.ownsRow w.heap.size 3 1 v zs.length (zs.map (Value.int .i64))∧Below w.heap.size w W' :=
 (callsIn_wide (n:=6)).1 (appseq_in Fence.wide 6 trivial trivial rfl (by omega) Bs b off cap zs hreach w hBs hb hc hI)
theorem values_c (a:Option Addr) (n c:Nat) (w:World):Calls Tryz.prog 66 #[.slice a n c] w fun e w'=>e = .returned (.func (.func 75) #[] #[.pointer (some ⟨w.heap.size,0,none⟩)])∧w'=w.alloc (.cells #[.slice a n c] 22):=by
 go_enter Tryz.func66,Tryz.ntmps66
 go_wp2
 go_ret
 exact ⟨rfl,rfl⟩
theorem sorted_c (Bs b off cap:Nat) (zs:List Int) (hreach:zs.length≤100000) (h1:1≤zs.length) (w:World) (hBs:Bs<w.heap.size) (hb:b<w.heap.size)
  (hc:w.cell? ⟨Bs,0,none⟩=some (.slice (some ⟨b,off,none⟩) zs.length cap)) (hI:∀j,j<zs.length→w.cell? ⟨b,off+j,none⟩=some (.int .i64 (zs[j]?.getD 0))) :
  Calls Tryz.prog 65 #[.func (.func 75) #[] #[.pointer (some ⟨Bs,0,none⟩)]] w fun e w'=>(∃v,e = .returned v∧w'.ownsRow w.heap.size 3 1 v zs.length ((zs.mergeSort (fun x y=>decide (x≤y))).map (Value.int .i64)))∧Below w.heap.size w w':=by
 have HC:=Lib.hid (appseq_c Bs b off cap zs hreach w hBs hb hc hI)
 have HCO:Calls Tryz.prog 73 #[.func (.func 75) #[] #[.pointer (some ⟨Bs,0,none⟩)]] w fun e w'=>(∃v,e = .returned v∧w'.ownsRow w.heap.size 3 1 v zs.length (zs.map (Value.int .i64)))∧Below w.heap.size w w':=by
  clear hc hI
  go_enter Tryz.func73,Tryz.ntmps73
  go_wp2_with (first|(go_at_call 82;refine HC.out.mono ?_;rintro _ w1 ⟨v,rfl,hown,hb1⟩))
  go_ret
  exact ⟨⟨_,rfl,hown⟩,hb1⟩
 have HCO:=Lib.hid HCO
 clear hc hI HC
 go_enter Tryz.func65,Tryz.ntmps65
 go_wp2_with fail
 refine HCO.out.mono ?_
 rintro _ w1 ⟨⟨v,rfl,hown⟩,hb1⟩
 rcases hown.2 with ⟨_,hz⟩|⟨gb,cap1,cur,rfl,hbase,hgb,r1,r2,r3,r4⟩
 ·omega
 have hH:Holds (Value.int .i64) w1 gb 0 zs.toArray:=holds_of_block_i hgb (by simpa using r4)
 have hgl:gb<w1.heap.size:=(Array.getElem?_eq_some_iff.1 hgb).1
 have HS:Hid (Calls Tryz.prog 74 #[.slice (some ⟨gb,0,none⟩) zs.length cap1] w1 fun e w'=>e = .returned (.tuple #[])∧∃n os,w'=grow (putRow (Value.int .i64) (Sort.ahead w1 n) gb 0 (zs.mergeSort fun x y=>decide (x≤y)).toArray) os):=AnyM.slices_Sort_int sortA gb 0 cap1 zs w1 hH hgl (by omega)
 have HOS:Hid (∀nn os,(grow (putRow (Value.int .i64) (Sort.ahead w1 nn) gb 0 (zs.mergeSort fun x y=>decide (x≤y)).toArray) os).ownsRow w.heap.size 3 1 (.slice (some ⟨gb,0,none⟩) zs.length cap1) zs.length ((zs.mergeSort (fun x y=>decide (x≤y))).map (Value.int .i64))∧Below w.heap.size w (grow (putRow (Value.int .i64) (Sort.ahead w1 nn) gb 0 (zs.mergeSort fun x y=>decide (x≤y)).toArray) os)):=fun nn os=>⟨ownsRow_sorted_i (by simp) hbase hgb r1 r2 r3,hb1.grown (grownBy_sorted_i _) hb1.size (fun j hj=>by cases hj;exact hbase)⟩
 clear hown r1 r2 r3 r4 hH hgb hgl
 go_wp2_with fail
 refine HS.out.mono ?_
 rintro _ w2 ⟨rfl,nn,os,hw2⟩
 have hfin:=HOS.out nn os
 rw[← hw2] at hfin
 clear hw2 HS HOS
 go_wp2_with fail
 go_ret
 exact ⟨⟨_,rfl,hfin.1⟩,hfin.2⟩
end
end Go.Proofs.YtpkghjoippcjeaaGreatDoor
