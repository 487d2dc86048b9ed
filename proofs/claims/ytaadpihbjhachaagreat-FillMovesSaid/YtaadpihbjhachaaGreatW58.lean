/- Texts U4 to U5 of this proof, in one file. -/
import Derived.Test.YtaadpihbjhachaaGreatW07
import Derived.RangeFuncBox
import Derived.RangeFuncLeaves
import Derived.RangeFuncWrites
import Derived.Shelf.SortM.Plain
import Derived.Lib.SlKeysI
namespace Go.Proofs.YtaadpihbjhachaaGreat
set_option maxRecDepth 100000
set_option maxHeartbeats 16000000
section
open Go Go.RowKit Go.Shelf
attribute [local go_sem] Oper.semAt_some
def vTo (f:Nat→Int) (k:Nat):List Int:=(List.range k).map f
theorem vTo_succ (f:Nat→Int) (k:Nat):vTo f (k+1)=vTo f k++[f k]:=by simp[vTo,List.range_succ]
theorem vTo_length (f:Nat→Int) (k:Nat):(vTo f k).length=k:=by simp[vTo]
theorem vTo_all (zs:List Int):vTo (fun j=>zs[j]?.getD 0) zs.length=zs:=by
 apply List.ext_getElem
 ·simp[vTo]
 ·intro i h1 h2
  simp[vTo,h2]
theorem vTo_take (zs:List Int) {k:Nat} (hk:k≤zs.length):vTo (fun j=>zs[j]?.getD 0) k=zs.take k:=by
 apply List.ext_getElem
 ·simp[vTo,hk]
 ·intro i h1 h2
  have:i<zs.length:=by simp[vTo] at h1;omega
  simp[vTo,this]
theorem vals1_in (F:Fence) (n:Nat) (h7:F.fn 187) (hro:F.round=none) (hn:1≤n) (l Bs n₀ b off len cap:Nat) (zs:List Int) (hreach:len*8≤140737488351232) (hb:b<n₀) (J Jx:List Int→World→Prop)
  (hY:∀pre x W,J pre W→pre.length<len→YieldAt F (n - 1) Tryz.prog l #[.int .i64 x] W fun e W' =>
   (e = .returned (.bool true)∧J (pre++[x]) W'∧Below n₀ W W')∨(e = .returned (.bool false)∧Jx (pre++[x]) W'))
  (W:World) (hBs:W.cell? ⟨Bs,0,none⟩=some (.slice (some ⟨b,off,none⟩) len cap)) (hc:∀j,j<len→W.cell? ⟨b,off+j,none⟩=some (.int .i64 (zs[j]?.getD 0))) (h0:J [] W) :
  CallsIn F n Tryz.prog 187 #[.func (.yield l) #[] #[],.pointer (some ⟨Bs,0,none⟩)] W fun e W'=>(∃v,e = .returned v) ∧
   ((∃ys,ys=vTo (fun j=>zs[j]?.getD 0) len∧J ys W')∨(∃pre,(∃k,k≤len∧pre=vTo (fun j=>zs[j]?.getD 0) k)∧Jx pre W')):=by
 refine callsIn_of_wp Tryz.func187 rfl h7 ?_ hro
 simp only[Tryz.ntmps187,List.size_toArray,List.length_cons,List.length_nil,Nat.reduceAdd,Nat.reduceSub,Array.replicate_succ,Array.replicate_zero,List.push_toArray,List.append_toArray,List.nil_append,List.cons_append]
 gi_wp2
 gi_loopw [7] (fun i wr=>∃k:Nat,k≤len∧i = .int .i64 k∧J (vTo (fun j=>zs[j]?.getD 0) k) wr∧Below n₀ W wr)
  (fun i _=>len - (intOf i).toNat)
 case atStart=>exact ⟨0,Nat.zero_le _,rfl,h0,Below.refl _ _⟩
 case round =>
  obtain ⟨k,hk,rfl,hJs,hnx⟩:=hrel
  have hcx:k<len→wr.cell? ⟨b,off+k,none⟩=some (.int .i64 (zs[k]?.getD 0)):=fun h=>(hnx.cell (p:=⟨b,off+k,none⟩) hb).trans (hc k h)
  by_cases hlt:k<len
  ·obtain ⟨fn,tmps,assign,body,hy,hR⟩:=hY _ (zs[k]?.getD 0) wr hJs (by rw[vTo_length];exact hlt)
   have hcx':=hcx hlt
   gi_wp2
   refine hR.mono ?_
   rintro e W3 (⟨rfl,hJ3,hk3⟩|⟨rfl,hJx3⟩)
   ·gi_wp2
    go_roundw
    case rel=>exact ⟨k+1,by omega,by simp,by rw[vTo_succ];exact hJ3,hnx.trans hk3⟩
    case measure=>simp[intOf];omega
   ·gi_wp2
    refine bodyPost_ret (results_none rfl _ _ _) rfl ?_
    exact ⟨⟨_,rfl⟩,.inr ⟨_,⟨k+1,by omega,(vTo_succ _ _).symm⟩,hJx3⟩⟩
  ·obtain rfl:k=len:=by omega
   gi_wp2
   go_end0
   exact ⟨⟨_,rfl⟩,.inl ⟨_,rfl,hJs⟩⟩
theorem vals_stops (F:Fence) (n:Nat) (h7:F.fn 187) (hro:F.round=none) (hn:1≤n) (Bs n₀ b off cap:Nat) (zs:List Int) (hreach:zs.length*8≤140737488351232) (w:World) (hBs:Bs<w.heap.size) (hn₀:n₀≤w.heap.size) (hb:b<n₀)
  (hc:w.cell? ⟨Bs,0,none⟩=some (.slice (some ⟨b,off,none⟩) zs.length cap)) (hI:∀j,j<zs.length→w.cell? ⟨b,off+j,none⟩=some (.int .i64 (zs[j]?.getD 0))) :
  SeqStopsK F n Tryz.prog 187 #[.pointer (some ⟨Bs,0,none⟩)] (fun x:Int=>#[Value.int .i64 x]) (Below n₀) (fun ys=>ys=zs) (fun pre=>pre <+: zs) zs.length w:=fun l J Jx W hW _ _ hY h0=>by
 have hc':=(hW.cell (p:=⟨Bs,0,none⟩) hBs).trans hc
 refine (vals1_in F n h7 hro hn l Bs n₀ b off zs.length cap zs hreach hb J Jx hY W hc' (fun j hj=>(hW.cell (p:=⟨b,off+j,none⟩) (by show b<w.heap.size;omega)).trans (hI j hj)) h0).mono ?_
 rintro e W' ⟨he,⟨ys,rfl,hj⟩|⟨pre,⟨k,hk,rfl⟩,hj⟩⟩
 ·exact ⟨he,.inl ⟨_,vTo_all zs,hj⟩⟩
 ·exact ⟨he,.inr ⟨_,by rw[vTo_take zs hk];exact List.take_prefix _ _,hj⟩⟩
def AI (b:Nat) (pre:List Int) (W:World):Prop:=∃v,W.heap[b]?=some (.cells #[v] 25 (0,0))∧W.ownsRow (b+1) 3 1 v pre.length (pre.map (Value.int .i64))
theorem own_AI (b:Nat):Own (AI b):=by
 rintro pre A B row ⟨v,hq,hown⟩ hg hr
 refine ⟨v,(grownBy_keeps_cells hg hr hq rfl).trans hq,zw hown (fun k e hlt=>?_)⟩
 obtain ⟨o,ho⟩:∃o,A.heap[k]?=some o:=⟨_,Array.getElem?_eq_getElem hlt⟩
 exact grownBy_keeps_cells hg hr ho (owns_cells hown e ho)
theorem appseq_in (F:Fence) (n:Nat) (hA:F.fn 230) (hV:F.fn 187) (hro:F.round=none) (hn:3≤n) (Bs b off cap:Nat) (zs:List Int) (hreach:zs.length≤100000) (w:World) (hBs:Bs<w.heap.size) (hb:b<w.heap.size)
  (hc:w.cell? ⟨Bs,0,none⟩=some (.slice (some ⟨b,off,none⟩) zs.length cap)) (hI:∀j,j<zs.length→w.cell? ⟨b,off+j,none⟩=some (.int .i64 (zs[j]?.getD 0))) :
  CallsIn F n Tryz.prog 230 #[.slice none 0 0,.func (.func 187) #[] #[.pointer (some ⟨Bs,0,none⟩)]] w fun e W'=>∃v,e = .returned v∧W'.ownsRow w.heap.size 3 1 v zs.length (zs.map (Value.int .i64))∧Below w.heap.size w W':=by
 have h1:1≤n:=by omega
 obtain ⟨i0,hi,hz0,hz1,hz2⟩:=info_parts qk
 have fB:Below w.heap.size w (w.alloc (.cells #[.slice none 0 0] 25)):=(Below.refl _ _).alloc (Nat.le_refl _) _
 have fq:(w.alloc (.cells #[.slice none 0 0] 25)).heap[w.heap.size]?=some (.cells #[.slice none 0 0] 25 (0,0)):=World.alloc_heap_new _ _
 refine callsIn_of_wp_marks Tryz.func230 rfl hA ?_ hro
 simp only[Tryz.ntmps230,List.size_toArray,List.length_cons,List.length_nil,Nat.reduceAdd,Nat.reduceSub,Array.replicate_succ,Array.replicate_zero,List.push_toArray,List.append_toArray,List.nil_append,List.cons_append]
 gi_wp2
 refine wpIn_rangeFunc_ownG hro h1 (gf:=187) (lb:=#[.pointer (some ⟨Bs,0,none⟩)]) rfl hV (enters_of Tryz.func187 (by kernel_rfl) rfl)
  (vals_stops F (n - 1) hV hro (by omega) Bs w.heap.size b off cap zs (by omega) _ (by simp;omega) (by simp) hb ((fB.cell (p:=⟨Bs,0,none⟩) hBs).trans hc) (fun j hj=>(fB.cell (p:=⟨b,off+j,none⟩) hb).trans (hI j hj))) belowK_t (belowK_b (by simp)) (Below.refl _ _) (fun _=>rfl)
  (fun pre W=>AI w.heap.size pre W∧Below w.heap.size w W) (fun _ _ _=>False)
  (OwnFrom.and (Own.from (own_AI _) _) (ownFrom_below (Nat.le_refl _) (by simp)))
  (fun _ _ _ _ _ hs _ _=>hs) ⟨⟨_,fq,World.ownsRow_nil _ _ _ _⟩,fB⟩ ?act ?assign ?body ?done ?stop
 case assign =>
  intro l x W K hK
  gi_wp2
  exact hK
 case body =>
  rintro l pre x W ⟨⟨v,hq,hown⟩,hB⟩ hlt
  obtain ⟨av,cv,rfl⟩:=zr hown
  have c0:=zc hq 0
  have f0:=zo hq 0
  have hsz:=hB.size
  have hql:=zy hq
  have hne:¬(Value.slice av pre.length cv).ownBlock=some w.heap.size:=fun e=>by have:=(hown.lt _ e).1;omega
  gi_wp2_with (gi_at_builtin;refine wpListIn_append_own_at _ rfl _ _ 25 rfl (w.heap.size+1) 3 i0 (.int .i64 0) 1 8 Tryz.underlying25 hi hz0 hz1 hz2 rfl (by decide) (.slice av pre.length cv) _ _ rfl (hown.alloc _) ⟨W.heap.size,0,none⟩ 1 1 [.int .i64 x] rfl rfl (cell_one_new _ _ _) (by simp[Value.oneCell']) (by unfold maxLen;omega) (by omega) (by simp;omega) ?_;intro v' w1 hown' hgrow _ hnew';obtain ⟨av',cv',rfl⟩:=zr hown';have hs2:=qw hgrow;have q5':=hs2.q hq hne;have c5':=zc q5' 0;have f5':=zo q5' 0)
  have hne':(Value.slice av' (pre.length+1) cv').ownBlock≠some w.heap.size:=fun e=>by have:=(hown'.lt _ e).1;omega
  have hown2:=ownsRow_setCell_other hown' (a:=⟨w.heap.size,0,none⟩) hne' (.slice av' (pre.length+1) cv')
  have hbl:Below w.heap.size W (w1.setCell ⟨w.heap.size,0,none⟩ (.slice av' (pre.length+1) cv')):=(hs2.below (B:=w.heap.size) hsz (fun k e=>by have:=(hown.lt k e).1;omega)).setCell (p:=⟨w.heap.size,0,none⟩) (Nat.le_refl _) _
  exact ⟨(((KeepsOthers.alloc W _).trans (KeepsOthers.of_grownBy hgrow (fun j o e ho=>owns_cells (hown.alloc _) e ho))).trans (KeepsOthers.setCell _ _ _)).from _,hbl,⟨_,zC q5' _,by rw[List.length_append,List.map_append];exact hown2⟩,hB.trans hbl⟩
 case done =>
  rintro D ys W hD rfl ⟨⟨v,hq,hown⟩,hB⟩ hK
  have c0:=zc hq 0
  have hk:∀(o':Obj) (k:Nat) (o:Obj),W.heap[k]?=some o→o.isCells=true→(W.putObj D o').heap[k]?=W.heap[k]?:=fun o' k o ho hc=>grownBy_keeps_cells (grownBy_putObj' W D o') (fun r e=>by cases e;exact ⟨_,hK,rfl⟩) ho hc
  gi_wp2
  refine ⟨by simp,.inl ⟨_,_,rfl,run_takeDeferred hK,?_⟩⟩
  refine ⟨_,results_tmp rfl _ _ _,v,rfl,zw (zI hown (by omega)) (fun k e hlt=>?_),hB.trans (belowK_b (w:=w) (Nat.le_refl _) W D _ _ (by simp at hD;omega) hK rfl rfl)⟩
  exact hk _ k _ (Array.getElem?_eq_getElem hlt) (owns_cells hown e (Array.getElem?_eq_getElem hlt))
 case stop =>
  rintro D c pre W _ _ h _
  exact h.elim
end
section
open Go Go.RowKit Go.Shelf Go.Sort
attribute [local go_sem] Oper.semAt_some
def sortA_ren:Go.Shelf.Ren:=⟨fun|5=>58|8=>136|7=>135|19=>207|20=>208|10=>198|11=>199|12=>200|13=>201|14=>202|15=>203|16=>204|17=>205|18=>206|30=>233|31=>234|32=>235|33=>236|34=>237|35=>238|40=>257|n=>n,fun|23=>25|25=>3|3=>3|32=>188|22=>25|0=>0|44=>245|46=>146|4=>4|36=>238|35=>237|41=>109|5=>5|9=>9|53=>264|57=>268|63=>281|64=>124|n=>n,fun|n=>n⟩
theorem sortA:Go.Proofs.SlLaysM.n5 Tryz.prog sortA_ren where
 mixed:=by kernel_rfl
 f5:=⟨Tryz.f58.name,by kernel_rfl,Tryz.func58.trans (congrArg some (by kernel_rfl))⟩
 f7:=⟨Tryz.f135.name,by kernel_rfl,Tryz.func135.trans (congrArg some (by kernel_rfl))⟩
 f8:=Tryz.func136.trans (congrArg some (by kernel_rfl))
 f10:=⟨Tryz.f198.name,by kernel_rfl,Tryz.func198.trans (congrArg some (by kernel_rfl))⟩
 f11:=⟨Tryz.f199.name,by kernel_rfl,Tryz.func199.trans (congrArg some (by kernel_rfl))⟩
 f12:=⟨Tryz.f200.name,by kernel_rfl,Tryz.func200.trans (congrArg some (by kernel_rfl))⟩
 f13:=⟨Tryz.f201.name,by kernel_rfl,Tryz.func201.trans (congrArg some (by kernel_rfl))⟩
 f14:=⟨Tryz.f202.name,by kernel_rfl,Tryz.func202.trans (congrArg some (by kernel_rfl))⟩
 f15:=⟨Tryz.f203.name,by kernel_rfl,Tryz.func203.trans (congrArg some (by kernel_rfl))⟩
 f16:=⟨Tryz.f204.name,by kernel_rfl,Tryz.func204.trans (congrArg some (by kernel_rfl))⟩
 f17:=⟨Tryz.f205.name,by kernel_rfl,Tryz.func205.trans (congrArg some (by kernel_rfl))⟩
 f18:=⟨Tryz.f206.name,by kernel_rfl,Tryz.func206.trans (congrArg some (by kernel_rfl))⟩
 f19:=Tryz.func207.trans (congrArg some (by kernel_rfl))
 f20:=Tryz.func208.trans (congrArg some (by kernel_rfl))
 f30:=⟨Tryz.f233.name,by kernel_rfl,Tryz.func233.trans (congrArg some (by kernel_rfl))⟩
 f31:=Tryz.func234.trans (congrArg some (by kernel_rfl))
 f32:=Tryz.func235.trans (congrArg some (by kernel_rfl))
 f33:=⟨Tryz.f236.name,by kernel_rfl,Tryz.func236.trans (congrArg some (by kernel_rfl))⟩
 f34:=⟨Tryz.f237.name,by kernel_rfl,Tryz.func237.trans (congrArg some (by kernel_rfl))⟩
 f35:=⟨Tryz.f238.name,by kernel_rfl,Tryz.func238.trans (congrArg some (by kernel_rfl))⟩
 f40:=⟨Tryz.f257.name,by kernel_rfl,Tryz.func257.trans (congrArg some (by kernel_rfl))⟩
 t0:=Tryz.underlying0
 a0:=Tryz.isAgg0
 z0:=Tryz.sizeOf0
 v0:=Tryz.zeroValue0
 t3:=Tryz.underlying3
 a3:=Tryz.isAgg3
 z3:=Tryz.sizeOf3
 v3:=Tryz.zeroValue3
 t4:=Tryz.underlying4
 a4:=Tryz.isAgg4
 z4:=Tryz.sizeOf4
 v4:=Tryz.zeroValue4
 t5:=Tryz.underlying5
 a5:=Tryz.isAgg5
 z5:=Tryz.sizeOf5
 v5:=Tryz.zeroValue5
 t9:=Tryz.underlying9
 a9:=Tryz.isAgg9
 z9:=Tryz.sizeOf9
 v9:=Tryz.zeroValue9
 t22:=Tryz.underlying25
 a22:=Tryz.isAgg25
 z22:=Tryz.sizeOf25
 v22:=Tryz.zeroValue25
 t23:=Tryz.underlying25
 a23:=Tryz.isAgg25
 z23:=Tryz.sizeOf25
 v23:=Tryz.zeroValue25
 t25:=Tryz.underlying3
 a25:=Tryz.isAgg3
 z25:=Tryz.sizeOf3
 v25:=Tryz.zeroValue3
 t32:=Tryz.underlying188
 a32:=Tryz.isAgg188
 z32:=Tryz.sizeOf188
 v32:=Tryz.zeroValue188
 t35:=Tryz.underlying237
 a35:=Tryz.isAgg237
 z35:=Tryz.sizeOf237
 v35:=Tryz.zeroValue237
 t36:=Tryz.underlying238
 a36:=Tryz.isAgg238
 z36:=Tryz.sizeOf238
 v36:=Tryz.zeroValue238
 t41:=Tryz.underlying109
 a41:=Tryz.isAgg109
 z41:=Tryz.sizeOf109
 v41:=Tryz.zeroValue109
 t44:=Tryz.underlying245
 a44:=Tryz.isAgg245
 z44:=Tryz.sizeOf245
 v44:=Tryz.zeroValue245
 t46:=Tryz.underlying146
 a46:=Tryz.isAgg146
 z46:=Tryz.sizeOf146
 v46:=Tryz.zeroValue146
 t53:=Tryz.underlying264
 a53:=Tryz.isAgg264
 z53:=Tryz.sizeOf264
 v53:=Tryz.zeroValue264
 t57:=Tryz.underlying268
 a57:=Tryz.isAgg268
 z57:=Tryz.sizeOf268
 v57:=Tryz.zeroValue268
 t63:=Tryz.underlying281
 a63:=Tryz.isAgg281
 z63:=Tryz.sizeOf281
 v63:=Tryz.zeroValue281
 t64:=Tryz.underlying124
 a64:=Tryz.isAgg124
 z64:=Tryz.sizeOf124
 v64:=Tryz.zeroValue124
theorem appseq_c (Bs b off cap:Nat) (zs:List Int) (hreach:zs.length≤100000) (w:World) (hBs:Bs<w.heap.size) (hb:b<w.heap.size)
  (hc:w.cell? ⟨Bs,0,none⟩=some (.slice (some ⟨b,off,none⟩) zs.length cap)) (hI:∀j,j<zs.length→w.cell? ⟨b,off+j,none⟩=some (.int .i64 (zs[j]?.getD 0))) :
  Calls Tryz.prog 230 #[.slice none 0 0,.func (.func 187) #[] #[.pointer (some ⟨Bs,0,none⟩)]] w fun e W'=>∃v,e = .returned v∧W'.ownsRow w.heap.size 3 1 v zs.length (zs.map (Value.int .i64))∧Below w.heap.size w W' :=
 (callsIn_wide (n:=6)).1 (appseq_in Fence.wide 6 trivial trivial rfl (by omega) Bs b off cap zs hreach w hBs hb hc hI)
theorem values_c (a:Option Addr) (n c:Nat) (w:World):Calls Tryz.prog 121 #[.slice a n c] w fun e w'=>e = .returned (.func (.func 187) #[] #[.pointer (some ⟨w.heap.size,0,none⟩)])∧w'=w.alloc (.cells #[.slice a n c] 25):=by
 go_enter Tryz.func121,Tryz.ntmps121
 go_wp2
 go_ret
 exact ⟨rfl,rfl⟩
theorem sorted_c (Bs b off cap:Nat) (zs:List Int) (hreach:zs.length≤100000) (h1:1≤zs.length) (w:World) (hBs:Bs<w.heap.size) (hb:b<w.heap.size)
  (hc:w.cell? ⟨Bs,0,none⟩=some (.slice (some ⟨b,off,none⟩) zs.length cap)) (hI:∀j,j<zs.length→w.cell? ⟨b,off+j,none⟩=some (.int .i64 (zs[j]?.getD 0))) :
  Calls Tryz.prog 120 #[.func (.func 187) #[] #[.pointer (some ⟨Bs,0,none⟩)]] w fun e w'=>(∃v,e = .returned v∧w'.ownsRow w.heap.size 3 1 v zs.length ((zs.mergeSort (fun x y=>decide (x≤y))).map (Value.int .i64)))∧Below w.heap.size w w':=by
 have HC:=za (appseq_c Bs b off cap zs hreach w hBs hb hc hI)
 have HCO:Calls Tryz.prog 186 #[.func (.func 187) #[] #[.pointer (some ⟨Bs,0,none⟩)]] w fun e w'=>(∃v,e = .returned v∧w'.ownsRow w.heap.size 3 1 v zs.length (zs.map (Value.int .i64)))∧Below w.heap.size w w':=by
  clear hc hI
  go_enter Tryz.func186,Tryz.ntmps186
  go_wp2_with (first|(go_at_call 230;refine HC.out.mono ?_;rintro _ w1 ⟨v,rfl,hown,hb1⟩))
  go_ret
  exact ⟨⟨_,rfl,hown⟩,hb1⟩
 have HCO:=za HCO
 clear hc hI HC
 go_enter Tryz.func120,Tryz.ntmps120
 go_wp2_with fail
 refine HCO.out.mono ?_
 rintro _ w1 ⟨⟨v,rfl,hown⟩,hb1⟩
 rcases hown.2 with ⟨_,hz⟩|⟨gb,cap1,cur,rfl,hbase,hgb,r1,r2,r3,r4⟩
 ·omega
 have hH:Holds (Value.int .i64) w1 gb 0 zs.toArray:=holds_of_block_i hgb (by simpa using r4)
 have hgl:gb<w1.heap.size:=(Array.getElem?_eq_some_iff.1 hgb).1
 have HS:Hid (Calls Tryz.prog 58 #[.slice (some ⟨gb,0,none⟩) zs.length cap1] w1 fun e w'=>e = .returned (.tuple #[])∧∃n os,w'=grow (putRow (Value.int .i64) (Sort.ahead w1 n) gb 0 (zs.mergeSort fun x y=>decide (x≤y)).toArray) os):=AnyM.slices_Sort_int sortA gb 0 cap1 zs w1 hH hgl (by omega)
 have HOS:Hid (∀nn os,(grow (putRow (Value.int .i64) (Sort.ahead w1 nn) gb 0 (zs.mergeSort fun x y=>decide (x≤y)).toArray) os).ownsRow w.heap.size 3 1 (.slice (some ⟨gb,0,none⟩) zs.length cap1) zs.length ((zs.mergeSort (fun x y=>decide (x≤y))).map (Value.int .i64))∧Below w.heap.size w (grow (putRow (Value.int .i64) (Sort.ahead w1 nn) gb 0 (zs.mergeSort fun x y=>decide (x≤y)).toArray) os)):=fun nn os=>⟨ownsRow_sorted_i (by simp) hbase hgb r1 r2 r3,hb1.grown (grownBy_sorted_i _) hb1.size (fun j hj=>by cases hj;exact hbase)⟩
 clear hown r1 r2 r3 r4 hH hgb hgl
 go_wp2_with fail
 refine HS.out.mono ?_
 rintro _ w2 ⟨rfl,nn,os,hw2⟩
 have hfin:=HOS.out nn os
 rw[← hw2] at hfin
 clear hw2 HS HOS
 go_wp2_with fail
 go_ret
 exact ⟨⟨_,rfl,hfin.1⟩,hfin.2⟩
end
end Go.Proofs.YtaadpihbjhachaaGreat
