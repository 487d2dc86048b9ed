/- Texts J15 to R0 of this proof, in one file. -/
import Derived.Test.YtpkghjoippcjeaaW01
import Derived.Test.YtpkghjoippcjeaaW02
import Derived.Laws.BitsAllLaws
import Derived.Deep.CutBlock
import Derived.Deep.CutRange
namespace Go.Proofs.Ytpkghjoippcjeaa
set_option maxRecDepth 100000
set_option maxHeartbeats 16000000
section
open Go Go.RowKit
attribute [local go_sem] over_cell
attribute [local go_sem] Oper.semAt_some
theorem twhen_c (h:Bool) (e:Int) (w:World):Calls Try.prog 48 #[.bool h,.int .i64 e] w fun r w'=>r = .returned (.int .i64 (whenV h e))∧w=w':=by
 cases h
 ·go_enter Try.func48,Try.ntmps48
  go_wp2
  go_ret
  exact ⟨rfl,rfl⟩
 ·go_enter Try.func48,Try.ntmps48
  go_wp2
  go_ret
  exact ⟨rfl,rfl⟩
theorem tfirst_c (a:Option Addr) (n c:Nat) (xs:List Int) (w:World) (h:IC w a n xs) :
  Calls Try.prog 47 #[.slice a n c] w fun e w'=>e = .returned (.int .i64 (firstL xs))∧w=w':=by
 have hm:=h.small
 go_enter Try.func47,Try.ntmps47
 go_wp2
 go_loop [4,7] (fun _ i=>∃k:Nat,k≤n∧i = .int .i64 k∧Hid (∀j,j<k→xs[j]?.getD 0=0)) (fun _ i=>n - (intOf i).toNat)
 case atStart=>exact ⟨0,by omega,rfl,fun j hj=>absurd hj (by omega)⟩
 case round =>
  obtain ⟨k,hk,rfl,hn⟩:=hrel
  by_cases hlt:k<n
  ·obtain ⟨b,off,rfl,hb,hc⟩:=h.2 k hlt
   go_wp2
   ·have he:(xs[k]?.getD 0 != 0)=true:=by assumption
    go_ret
    exact ⟨ret_int (firstL_hit hn.out (by rw[h.len];exact hlt) (by simpa using he)).symm,rfl⟩
   ·have he:(xs[k]?.getD 0 != 0)=false:=by assumption
    go_round
    case rel=>exact ⟨k+1,by omega,by go_num,upI_snoc (f:=fun j=>xs[j]?.getD 0) hn.out (by simpa using he)⟩
    case measure=>simp[intOf];omega
  ·have e:k=n:=by omega
   subst e
   go_wp2
   go_ret
   exact ⟨ret_int (firstL_none (by rw[h.len];exact hn.out)).symm,rfl⟩
end
section
open Go Go.RowKit
attribute [local go_sem] over_cell
theorem and_bit32 (v r:Nat) (hv:v<4294967296):(bits BinOp.and IntKind.u32 ((v:Int) / 2 ^ r) 1==1)=v.testBit r:=by
 have e:((v:Int) / 2 ^ r)=((v / 2 ^ r:Nat):Int):=by simp
 have hlt:v / 2 ^ r<4294967296:=Nat.lt_of_le_of_lt (Nat.div_le_self _ _) hv
 rw[e,show (1:Int)=((1:Nat):Int) from rfl,u32_and_nat _ _ hlt (by decide)]
 rw[Nat.testBit_eq_decide_div_mod_eq,Nat.and_one_is_mod]
 have:v / 2 ^ r % 2=0∨v / 2 ^ r % 2=1:=by omega
 rcases this with h|h <;> simp[h]
theorem or_bit32 (v r:Nat) (hv:v<4294967296) (hr:r<32):bits BinOp.or IntKind.u32 (v:Int) (IntKind.u32.wrap (2 ^ r))=((v ||| 1 <<< r:Nat):Int):=by
 have h2:2 ^ r<4294967296:=by
  rw[show (4294967296:Nat)=2 ^ 32 from by decide];exact Nat.pow_lt_pow_right (by decide) hr
 have e:IntKind.u32.wrap (2 ^ r)=((2 ^ r:Nat):Int):=by
  rw[IntKind.wrap_u32']
  have:((2:Int) ^ r)=((2 ^ r:Nat):Int):=by simp
  rw[this]
  generalize 2 ^ r=m at h2 ⊢
  omega
 rw[e,u32_or_nat _ _ hv h2,Nat.one_shiftLeft]
theorem syhas_c (m:Nat) (x:Int) (w:World) (hm:m<4294967296) (h0:0≤x) (h1:x<32) :
  Calls Try.prog 81 #[.int .u32 (m:Int),.int .i64 x] w fun e w'=>e = .returned (.bool (m.testBit x.toNat))∧w=w':=by
 have hE:Hid ((bits BinOp.and IntKind.u32 ((m:Int) / 2 ^ x.toNat) 1==1)=m.testBit x.toNat):=and_bit32 _ _ hm
 generalize m.testBit x.toNat=b at hE
 go_enter Try.func81,Try.ntmps81
 go_wp2
 go_ret
 exact ⟨ret_bool hE.out,rfl⟩
theorem sywith_c (m:Nat) (x:Int) (w:World) (hm:m<4294967296) (h0:0≤x) (h1:x<32) :
  Calls Try.prog 82 #[.int .u32 (m:Int),.int .i64 x] w fun e w'=>e = .returned (.int .u32 ((m ||| 1 <<< x.toNat:Nat):Int))∧w=w':=by
 have hE:Hid (bits BinOp.or IntKind.u32 (m:Int) (2 ^ x.toNat % 4294967296)=((m ||| 1 <<< x.toNat:Nat):Int)):=by
  have h:=or_bit32 m x.toNat hm (by omega)
  rw[IntKind.wrap_u32'] at h
  exact h
 generalize m ||| 1 <<< x.toNat=b at hE
 go_enter Try.func82,Try.ntmps82
 go_wp2
 go_ret
 exact ⟨by rw[hE.out];rfl,rfl⟩
theorem isOrder_c (n:Int) (w:World):Calls Try.prog 45 #[.int .i64 n] w fun e w'=>e = .returned (.bool (decide (1≤n)&&decide (n≤16)))∧w=w':=by
 by_cases h1:1≤n
 ·have hd:decide (1≤n)=true:=decide_eq_true h1
  go_enter Try.func45,Try.ntmps45
  go_wp2
  go_ret
  exact ⟨by rw[hd];rfl,rfl⟩
 ·have hd:decide (1≤n)=false:=decide_eq_false h1
  go_enter Try.func45,Try.ntmps45
  go_wp2
  go_ret
  exact ⟨rfl,rfl⟩
end
section
open Go Go.RowKit
attribute [local go_sem] over_cell
attribute [local go_sem] over_frozen
theorem put_no (b:Nat) (i j m1 m2:Nat) (x:Int) (w:World) (hi:i<16) (hj:j<16) (h0:0≤x) (h1:x<32) (hm1:m1<4294967296) (hm2:m2<4294967296) (_hb:b<w.heap.size)
  (c1:w.cell? ⟨b,i,none⟩=some (.int .u32 (m1:Int))) (c2:w.cell? ⟨b,16+j,none⟩=some (.int .u32 (m2:Int))) (hno:(m1.testBit x.toNat||m2.testBit x.toNat)=true) :
  Calls Try.prog 76 #[.pointer (some ⟨b,0,none⟩),.int .i64 (i:Int),.int .i64 (j:Int),.int .i64 x] w fun e w'=>e = .returned (.bool false)∧w=w':=by
 have H1:=Lib.hid (fun W=>syhas_c m1 x W hm1 h0 h1)
 have H2:=Lib.hid (fun W=>syhas_c m2 x W hm2 h0 h1)
 generalize m1.testBit x.toNat=b1 at H1 hno
 generalize m2.testBit x.toNat=b2 at H2 hno
 have hi2:(i:Int)<16:=by omega
 have hj2:(j:Int)<16:=by omega
 cases b1 with
 | true =>
  go_enter Try.func76,Try.ntmps76
  go_wp2_with (first|(go_at_call 81;first|(refine (H1.out _).mono ?_;rintro _ w1 ⟨rfl,rfl⟩)))
  go_ret
  exact ⟨rfl,rfl⟩
 | false =>
  cases b2 with
  | false=>cases hno
  | true =>
   go_enter Try.func76,Try.ntmps76
   go_wp2_with fail
   refine (H1.out _).mono ?_
   rintro _ w1 ⟨rfl,rfl⟩
   go_wp2_with fail
   refine (H2.out _).mono ?_
   rintro _ w1 ⟨rfl,rfl⟩
   go_wp2_with fail
   go_ret
   exact ⟨rfl,rfl⟩
theorem put_yes (b:Nat) (i j m1 m2:Nat) (x:Int) (w:World) (hi:i<16) (hj:j<16) (h0:0≤x) (h1:x<32) (hm1:m1<4294967296) (hm2:m2<4294967296) (hb:b<w.heap.size)
  (c1:w.cell? ⟨b,i,none⟩=some (.int .u32 (m1:Int))) (c2:w.cell? ⟨b,16+j,none⟩=some (.int .u32 (m2:Int))) (f1:w.frozen? ⟨b,i,none⟩=false) (f2:w.frozen? ⟨b,16+j,none⟩=false) (hno:(m1.testBit x.toNat||m2.testBit x.toNat)=false) :
  Calls Try.prog 76 #[.pointer (some ⟨b,0,none⟩),.int .i64 (i:Int),.int .i64 (j:Int),.int .i64 x] w fun e w'=>e = .returned (.bool true)∧w'=((w.setCell ⟨b,i,none⟩ (.int .u32 ((m1 ||| 1 <<< x.toNat:Nat):Int))).setCell ⟨b,16+j,none⟩ (.int .u32 ((m2 ||| 1 <<< x.toNat:Nat):Int))).drew:=by
 rw[Bool.or_eq_false_iff] at hno
 have H1:=Lib.hid (fun W=>syhas_c m1 x W hm1 h0 h1)
 have H2:=Lib.hid (fun W=>syhas_c m2 x W hm2 h0 h1)
 rw[hno.1] at H1
 rw[hno.2] at H2
 have W1:=Lib.hid (fun W=>sywith_c m1 x W hm1 h0 h1)
 have W2:=Lib.hid (fun W=>sywith_c m2 x W hm2 h0 h1)
 generalize m1 ||| 1 <<< x.toNat=n1 at W1 ⊢
 generalize m2 ||| 1 <<< x.toNat=n2 at W2 ⊢
 have hi2:(i:Int)<16:=by omega
 have hj2:(j:Int)<16:=by omega
 go_enter Try.func76,Try.ntmps76
 go_wp2_with fail
 refine (H1.out _).mono ?_
 rintro _ w1 ⟨rfl,rfl⟩
 go_wp2_with fail
 refine (H2.out _).mono ?_
 rintro _ w1 ⟨rfl,rfl⟩
 go_wp2_with fail
 refine wp_region_T (fun w'=>∃u,w'=over (w) u) [0,1,2,3,4,5,6,7,8,10,12,13,14,15,16,18,20,21,24,25] [19,22,23,26,27] [(0,9),(0,17),(1,11),(2,19),(2,22),(2,23),(2,26),(2,27)] (by kernel_rfl) (by kernel_rfl) (by exact ⟨_,below_over (by repeat (first|assumption|exact Below.refl _ _|refine keep_drew ?_|refine keep_alloc ?_ _|refine keep_trans ?_ (by assumption)))⟩) ?_
 dsimp only[pickF,nthOp]
 repeat (first|(refine wpF_skip rfl (fun K hK=>?_);go_big_quiet_op;refine hK _ ?_;clear hK K)|(refine wpF_quiet rfl rfl (fun K hK=>?_);go_big_quiet_op;refine hK _ ?_;clear hK K))
 refine wpF_end ?_
 dsimp only[pickOps,nthOp]
 repeat (first|(refine wpS_skip rfl (fun K hK=>?_);go_big_quiet_op;refine hK _ ?_;clear hK K)|(refine wpS_quiet rfl rfl (fun K hK=>?_);go_big_quiet_op;refine hK _ ?_;clear hK K)|(refine wpS_loud ?_;go_wp2_with (go_at_call 82;first|(refine (W1.out _).mono ?_;rintro _ w1 ⟨rfl,rfl⟩)|(refine (W2.out _).mono ?_;rintro _ w1 ⟨rfl,rfl⟩));refine ⟨?_,?_⟩;focus (exact ⟨_,below_over (by repeat (first|assumption|exact Below.refl _ _|refine keep_drew ?_|refine keep_alloc ?_ _|refine keep_trans ?_ (by assumption)))⟩)))
 refine wpS_late _ _ _ rfl ?_
 dsimp only[List.map]
 go_wp2_with (go_at_call 82;first|(refine (W1.out _).mono ?_;rintro _ w1 ⟨rfl,rfl⟩)|(refine (W2.out _).mono ?_;rintro _ w1 ⟨rfl,rfl⟩))
 refine NoPanic.normal ?_
 go_wp2_with fail
 go_ret
 exact ⟨rfl,rfl⟩
end
section
end
section
open Go Go.RowKit
attribute [local go_sem] over_cell
attribute [local go_sem] Oper.semAt_some
theorem chk1_c (x low N:Int) (b1 b2:Nat) (w:World) (h1:w.cell? ⟨b1,0,none⟩=some (.int .i64 low)) (h2:w.cell? ⟨b2,0,none⟩=some (.int .i64 N)) :
  Calls Try.prog 75 #[.int .i64 x,.pointer (some ⟨b1,0,none⟩),.pointer (some ⟨b2,0,none⟩)] w fun e w'=>e = .returned (.bool (decide (x<low)||decide (N≤x)))∧w=w':=by
 by_cases h:x<low
 ·have hd:decide (x<low)=true:=decide_eq_true h
  go_enter Try.func75,Try.ntmps75
  go_wp2
  go_ret
  exact ⟨by rw[hd];rfl,rfl⟩
 ·have hd:decide (x<low)=false:=decide_eq_false h
  go_enter Try.func75,Try.ntmps75
  go_wp2
  go_ret
  exact ⟨rfl,rfl⟩
theorem chk1_fn:∀(args:Array Value) (w:World),Sem.run Try.prog (callFunc 75 args) w = .ok (.enter 75 args) w:=by
 intro args w;kernel_rfl
theorem anyP_any {f:Int→Bool} {cs:List Int}:anyP (fun k=>f (cs[k]?.getD 0)) cs.length=cs.any f:=by
 rw[Bool.eq_iff_iff]
 unfold anyP
 rw[List.any_eq_true,List.any_eq_true]
 constructor
 ·rintro ⟨k,hk,e⟩
  rw[List.mem_range] at hk
  rw[List.getElem?_eq_getElem hk,Option.getD_some] at e
  exact ⟨cs[k],List.getElem_mem hk,e⟩
 ·rintro ⟨x,hx,e⟩
  obtain ⟨k,hk,e2⟩:=List.getElem_of_mem hx
  exact ⟨k,List.mem_range.2 hk,by rw[List.getElem?_eq_getElem hk,Option.getD_some,e2];exact e⟩
theorem sc_other {w:World} {b i j:Nat} {v:Value} (h:i≠j):(w.setCell ⟨b,i,none⟩ v).cell? ⟨b,j,none⟩=w.cell? ⟨b,j,none⟩:=World.cell?_setCell_other _ _ _ _ (fun e=>h (congrArg Addr.off e))
theorem sc_same {w:World} {b i:Nat} {u v:Value} (h:w.cell? ⟨b,i,none⟩=some u):(w.setCell ⟨b,i,none⟩ v).cell? ⟨b,i,none⟩=some v:=World.cell?_setCell_same _ _ _ h
structure TkW (w:World) (b:Nat) (R K:Nat→Nat):Prop where
 lt:b<w.heap.size
 row:∀i,i<16→w.cell? ⟨b,i,none⟩=some (.int .u32 (R i:Int))∧w.frozen? ⟨b,i,none⟩=false
 col:∀i,i<16→w.cell? ⟨b,16+i,none⟩=some (.int .u32 (K i:Int))∧w.frozen? ⟨b,16+i,none⟩=false
theorem TkW.put {w:World} {b:Nat} {R K:Nat→Nat} (h:TkW w b R K) {i j n1 n2:Nat} (hi:i<16) (hj:j<16) :
  TkW ((w.setCell ⟨b,i,none⟩ (.int .u32 (n1:Int))).setCell ⟨b,16+j,none⟩ (.int .u32 (n2:Int))).drew b (fun r=>if r=i then n1 else R r) (fun r=>if r=j then n2 else K r):=by
 refine ⟨?_,fun r hr=>⟨?_,?_⟩,fun r hr=>⟨?_,?_⟩⟩
 ·have:=h.lt
  simpa [World.drew,World.setCell] using this
 ·show ((w.setCell _ _).setCell _ _).cell? _=_
  rw[sc_other (by omega)]
  by_cases e:r=i
  ·subst e
   rw[sc_same (h.row r hr).1,if_pos rfl]
  ·rw[sc_other (fun e2=>e e2.symm),(h.row r hr).1,if_neg e]
 ·show ((w.setCell _ _).setCell _ _).frozen? _=_
  rw[World.frozen?_setCell,World.frozen?_setCell]
  exact (h.row r hr).2
 ·show ((w.setCell _ _).setCell _ _).cell? _=_
  by_cases e:r=j
  ·subst e
   rw[sc_same (u := .int .u32 (K r:Int)) (by rw[sc_other (by omega)];exact (h.col r hr).1),if_pos rfl]
  ·rw[sc_other (by omega),sc_other (by omega),(h.col r hr).1,if_neg e]
 ·show ((w.setCell _ _).setCell _ _).frozen? _=_
  rw[World.frozen?_setCell,World.frozen?_setCell]
  exact (h.col r hr).2
theorem TkW.mono {w w':World} {b:Nat} {R K:Nat→Nat} (h:TkW w b R K) {B:Nat} (hb:Below B w w') (hlt:b<B):TkW w' b R K :=
 ⟨Nat.lt_of_lt_of_le h.lt hb.size,fun i hi=>⟨(hb.cell hlt).trans (h.row i hi).1,(hb.frozen hlt).trans (h.row i hi).2⟩,fun i hi=>⟨(hb.cell hlt).trans (h.col i hi).1,(hb.frozen hlt).trans (h.col i hi).2⟩⟩
theorem TkW.same {w:World} {b:Nat} {R K R' K':Nat→Nat} (h:TkW w b R K) (h1:∀i,i<16→R i=R' i) (h2:∀i,i<16→K i=K' i):TkW w b R' K' :=
 ⟨h.lt,fun i hi=>by rw[← h1 i hi];exact h.row i hi,fun i hi=>by rw[← h2 i hi];exact h.col i hi⟩
end
section
open Go Go.RowKit
attribute [local go_sem] over_cell
attribute [local go_sem] Oper.semAt_some
theorem tk_zero {w:World} {b:Nat} {T:TypeId} (h:w.heap[b]?=some (.cells (Array.replicate 32 (.int .u32 0)) T (0,0))):TkW w b (fun _=>0) (fun _=>0) :=
 ⟨q_lt h,fun i hi=>⟨by rw[q_cell h,Array.getElem?_replicate,if_pos (by omega)];rfl,q_free h i⟩,fun i hi=>⟨by rw[q_cell h,Array.getElem?_replicate,if_pos (by omega)];rfl,q_free h (16+i)⟩⟩
theorem chk_c (r:Int) (C:Nat) (a:Option Addr) (n c:Nat) (cs:List Int) (low:Int) (w:World) (h:IC w a n cs) (hC:1≤C) (hC2:C≤16) (hlow : -1≤low) (hn:n≤C*16) :
  Calls Try.prog 46 #[.agg #[.int .i64 r,.int .i64 (C:Int),.slice a n c],.int .i64 low,.int .i64 (C:Int)] w fun e w'=>e = .returned (.int .i64 (symE low C cs))∧Below w.heap.size w w':=by
 have hm:=h.small
 go_enter Try.func46,Try.ntmps46
 go_wp2_with fail
 have fsz:(((w.alloc (.cells #[.int .i64 r,.int .i64 (C:Int),.slice a n c] 31)).alloc (.cells #[.int .i64 low] 3)).alloc (.cells #[.int .i64 (C:Int)] 3)).heap.size=w.heap.size+3:=by simp only[World.size_alloc] <;> omega
 have fB:Below w.heap.size w (((w.alloc (.cells #[.int .i64 r,.int .i64 (C:Int),.slice a n c] 31)).alloc (.cells #[.int .i64 low] 3)).alloc (.cells #[.int .i64 (C:Int)] 3)):=(((Below.refl _ _).alloc (Nat.le_refl _) _).alloc (by simp only[World.size_alloc];omega) _).alloc (by simp only[World.size_alloc];omega) _
 have fq0:(((w.alloc (.cells #[.int .i64 r,.int .i64 (C:Int),.slice a n c] 31)).alloc (.cells #[.int .i64 low] 3)).alloc (.cells #[.int .i64 (C:Int)] 3)).heap[w.heap.size]?=some (.cells #[.int .i64 r,.int .i64 (C:Int),.slice a n c] 31 (0,0)):=by have h:=World.alloc_heap_new w (.cells #[.int .i64 r,.int .i64 (C:Int),.slice a n c] 31);exact (Below.heap_alloc _ _ _ (by simp only[World.size_alloc];omega)).trans ((Below.heap_alloc _ _ _ (by simp only[World.size_alloc];omega)).trans (h))
 have fq1:(((w.alloc (.cells #[.int .i64 r,.int .i64 (C:Int),.slice a n c] 31)).alloc (.cells #[.int .i64 low] 3)).alloc (.cells #[.int .i64 (C:Int)] 3)).heap[w.heap.size+1]?=some (.cells #[.int .i64 low] 3 (0,0)):=by have h:=World.alloc_heap_new (w.alloc (.cells #[.int .i64 r,.int .i64 (C:Int),.slice a n c] 31)) (.cells #[.int .i64 low] 3);simp only[World.size_alloc] at h;exact (Below.heap_alloc _ _ _ (by simp only[World.size_alloc];omega)).trans (h)
 have fq2:(((w.alloc (.cells #[.int .i64 r,.int .i64 (C:Int),.slice a n c] 31)).alloc (.cells #[.int .i64 low] 3)).alloc (.cells #[.int .i64 (C:Int)] 3)).heap[w.heap.size+1+1]?=some (.cells #[.int .i64 (C:Int)] 3 (0,0)):=by have h:=World.alloc_heap_new ((w.alloc (.cells #[.int .i64 r,.int .i64 (C:Int),.slice a n c] 31)).alloc (.cells #[.int .i64 low] 3)) (.cells #[.int .i64 (C:Int)] 3);simp only[World.size_alloc] at h;exact h
 generalize (((w.alloc (.cells #[.int .i64 r,.int .i64 (C:Int),.slice a n c] 31)).alloc (.cells #[.int .i64 low] 3)).alloc (.cells #[.int .i64 (C:Int)] 3))=W0 at fsz fB fq0 fq1 fq2 ⊢
 have H0:=Lib.hid (h.mono fB)
 have HC:Hid (Calls Try.prog 69 #[.slice a n c,.func (.func 75) #[] #[.pointer (some ⟨w.heap.size+1,0,none⟩),.pointer (some ⟨w.heap.size+2,0,none⟩)]] W0 fun e w'=>e = .returned (.bool (cs.any fun x=>decide (x<low)||decide ((C:Int)≤x)))∧Below W0.heap.size W0 w'):=by
  have h1:=containsFuncI_c a n c cs 75 #[.pointer (some ⟨w.heap.size+1,0,none⟩),.pointer (some ⟨w.heap.size+2,0,none⟩)] (fun k=>decide (cs[k]?.getD 0<low)||decide ((C:Int)≤cs[k]?.getD 0)) W0 H0.out chk1_fn (fun k hk W hb=>by
   refine (chk1_c _ low (C:Int) _ _ W (q_cell (keepq hb fq1) 0) (q_cell (keepq hb fq2) 0)).mono ?_
   rintro _ w1 ⟨rfl,rfl⟩
   exact ⟨rfl,Below.refl _ _⟩)
  have h2:=anyP_any (f:=fun x=>decide (x<low)||decide ((C:Int)≤x)) (cs:=cs)
  rw[h.len] at h2
  rw[h2] at h1
  exact h1
 have HS:Hid (symE low C cs=if (cs.any fun x=>decide (x<low)||decide ((C:Int)≤x))=true then 3 else if twiceB C cs=true then 17 else 0):=rfl
 have HV:Hid ((cs.any fun x=>decide (x<low)||decide ((C:Int)≤x))=false→∀k,k<n→low≤cs[k]?.getD 0∧cs[k]?.getD 0<(C:Int)):=fun e k hk=>by
  rw[List.any_eq_false] at e
  have hk2:k<cs.length:=by rw[h.len];exact hk
  have:=e cs[k] (List.getElem_mem hk2)
  rw[List.getElem?_eq_getElem hk2,Option.getD_some]
  simp only[Bool.or_eq_true,decide_eq_true_eq,not_or] at this
  omega
 have HL:=Lib.hid h.len
 clear h
 generalize (cs.any fun x=>decide (x<low)||decide ((C:Int)≤x))=av at HC HS HV
 obtain ⟨x0,x1,x2,xl⟩:W0.cell? ⟨w.heap.size,0,none⟩=some (.int .i64 r)∧W0.cell? ⟨w.heap.size,1,none⟩=some (.int .i64 (C:Int))∧W0.cell? ⟨w.heap.size,2,none⟩=some (.slice a n c)∧w.heap.size<W0.heap.size:=⟨q_cell fq0 0,q_cell fq0 1,q_cell fq0 2,q_lt fq0⟩
 clear fq0 fq1 fq2 fsz
 go_wp2_with fail
 refine HC.out.mono ?_
 rintro _ w1 ⟨rfl,hb1⟩
 cases av with
 | true =>
  rw[if_pos rfl] at HS
  go_wp2_with fail
  go_ret
  exact ⟨ret_int HS.out.symm,keep_trans fB hb1⟩
 | false =>
  rw[if_neg (by decide)] at HS
  have HV2:=Lib.hid (HV.out rfl)
  have y1:=(hb1.cell (p:=⟨w.heap.size,1,none⟩) xl).trans x1
  have y2:=(hb1.cell (p:=⟨w.heap.size,2,none⟩) xl).trans x2
  have yl:=Nat.lt_of_lt_of_le xl hb1.size
  clear x0 x1 x2 HV
  go_wp2_with fail
  have gsz:(w1.alloc (.cells #[.int .u32 0,.int .u32 0,.int .u32 0,.int .u32 0,.int .u32 0,.int .u32 0,.int .u32 0,.int .u32 0,.int .u32 0,.int .u32 0,.int .u32 0,.int .u32 0,.int .u32 0,.int .u32 0,.int .u32 0,.int .u32 0,.int .u32 0,.int .u32 0,.int .u32 0,.int .u32 0,.int .u32 0,.int .u32 0,.int .u32 0,.int .u32 0,.int .u32 0,.int .u32 0,.int .u32 0,.int .u32 0,.int .u32 0,.int .u32 0,.int .u32 0,.int .u32 0] 99)).heap.size=w1.heap.size+1:=by simp only[World.size_alloc]
  have gB:Below w1.heap.size w1 (w1.alloc (.cells #[.int .u32 0,.int .u32 0,.int .u32 0,.int .u32 0,.int .u32 0,.int .u32 0,.int .u32 0,.int .u32 0,.int .u32 0,.int .u32 0,.int .u32 0,.int .u32 0,.int .u32 0,.int .u32 0,.int .u32 0,.int .u32 0,.int .u32 0,.int .u32 0,.int .u32 0,.int .u32 0,.int .u32 0,.int .u32 0,.int .u32 0,.int .u32 0,.int .u32 0,.int .u32 0,.int .u32 0,.int .u32 0,.int .u32 0,.int .u32 0,.int .u32 0,.int .u32 0] 99)):=(Below.refl _ _).alloc (Nat.le_refl _) _
  have gq0:(w1.alloc (.cells #[.int .u32 0,.int .u32 0,.int .u32 0,.int .u32 0,.int .u32 0,.int .u32 0,.int .u32 0,.int .u32 0,.int .u32 0,.int .u32 0,.int .u32 0,.int .u32 0,.int .u32 0,.int .u32 0,.int .u32 0,.int .u32 0,.int .u32 0,.int .u32 0,.int .u32 0,.int .u32 0,.int .u32 0,.int .u32 0,.int .u32 0,.int .u32 0,.int .u32 0,.int .u32 0,.int .u32 0,.int .u32 0,.int .u32 0,.int .u32 0,.int .u32 0,.int .u32 0] 99)).heap[w1.heap.size]?=some (.cells #[.int .u32 0,.int .u32 0,.int .u32 0,.int .u32 0,.int .u32 0,.int .u32 0,.int .u32 0,.int .u32 0,.int .u32 0,.int .u32 0,.int .u32 0,.int .u32 0,.int .u32 0,.int .u32 0,.int .u32 0,.int .u32 0,.int .u32 0,.int .u32 0,.int .u32 0,.int .u32 0,.int .u32 0,.int .u32 0,.int .u32 0,.int .u32 0,.int .u32 0,.int .u32 0,.int .u32 0,.int .u32 0,.int .u32 0,.int .u32 0,.int .u32 0,.int .u32 0] 99 (0,0)):=by have h:=World.alloc_heap_new w1 (.cells #[.int .u32 0,.int .u32 0,.int .u32 0,.int .u32 0,.int .u32 0,.int .u32 0,.int .u32 0,.int .u32 0,.int .u32 0,.int .u32 0,.int .u32 0,.int .u32 0,.int .u32 0,.int .u32 0,.int .u32 0,.int .u32 0,.int .u32 0,.int .u32 0,.int .u32 0,.int .u32 0,.int .u32 0,.int .u32 0,.int .u32 0,.int .u32 0,.int .u32 0,.int .u32 0,.int .u32 0,.int .u32 0,.int .u32 0,.int .u32 0,.int .u32 0,.int .u32 0] 99);exact h
  generalize (w1.alloc (.cells #[.int .u32 0,.int .u32 0,.int .u32 0,.int .u32 0,.int .u32 0,.int .u32 0,.int .u32 0,.int .u32 0,.int .u32 0,.int .u32 0,.int .u32 0,.int .u32 0,.int .u32 0,.int .u32 0,.int .u32 0,.int .u32 0,.int .u32 0,.int .u32 0,.int .u32 0,.int .u32 0,.int .u32 0,.int .u32 0,.int .u32 0,.int .u32 0,.int .u32 0,.int .u32 0,.int .u32 0,.int .u32 0,.int .u32 0,.int .u32 0,.int .u32 0,.int .u32 0] 99))=W2 at gsz gB gq0 ⊢
  have HT0:=Lib.hid (tk_zero gq0)
  have HX:=Lib.hid (fun W (hb:Below w1.heap.size w1 W)=>And.intro ((hb.cell (p:=⟨w.heap.size,1,none⟩) yl).trans y1) (Nat.lt_of_lt_of_le yl hb.size))
  have HI:=Lib.hid (fun W (hb:Below w1.heap.size w1 W)=>(H0.out.mono hb1).mono hb)
  have HW:=Lib.hid (keep_trans fB hb1)
  have hgB:Below w1.heap.size w1 W2:=gB
  have hgl:w1.heap.size<W2.heap.size:=q_lt gq0
  clear gq0 gB gsz y1 y2 yl xl hb1 fB H0 HC
  generalize hbt:w1.heap.size=bt at *
  go_loopw [8,9,17] (fun _ _ iv wr=>∃k:Nat,k≤n∧iv = .int .i64 k∧Hid (NoTwice C cs k)∧Hid (TkW wr bt (rowM C cs k) (colM C cs k))∧Below bt w1 wr) (fun _ _ iv _=>n - (intOf iv).toNat)
  case atStart=>exact ⟨0,by omega,rfl,noTwice_zero,HT0.out,hgB⟩
  case round =>
   obtain ⟨k,hk,rfl,hnt,htk,hbr⟩:=hrel
   by_cases hlt:k<n
   ·obtain ⟨bx,ox,rfl,hbx,hcx⟩:=(HI.out _ hbr).2 k hlt
    obtain ⟨y1,yl⟩:=HX.out _ hbr
    have hv:=HV2.out k hlt
    have hki:(k:Int)<(n:Int):=by omega
    have HKL:Hid (k<cs.length):=by unfold Hid;rw[HL.out];exact hlt
    by_cases hneg:cs[k]?.getD 0<0
    ·have hskip:Hid (NoTwice C cs (k+1)∧∀W,TkW W bt (rowM C cs k) (colM C cs k)→TkW W bt (rowM C cs (k+1)) (colM C cs (k+1))) :=
      ⟨noTwice_succ hnt.out (fun h=>absurd h (by omega)),fun W h=>h.same (fun i _=>(rowM_skip hneg i).symm) (fun i _=>(colM_skip hneg i).symm)⟩
     have hx:cs[k]?.getD 0 = -1:=by omega
     rw[hx] at hcx
     clear hv hx hneg
     go_wp2_with fail
     refine wp_region_S (fun w'=>∃u,w'=over (wr) u) [] [(0,0),(0,1),(0,2),(0,3),(0,4),(0,5),(0,6),(0,7),(0,8),(0,9),(0,10),(0,11),(1,12),(0,13),(0,14)] (by kernel_rfl) (by kernel_rfl) (by exact ⟨_,below_over (by repeat (first|assumption|exact Below.refl _ _|refine keep_drew ?_|refine keep_alloc ?_ _|refine keep_trans ?_ (by assumption)))⟩) ?_
     dsimp only[pickOps,nthOp]
     repeat (first|(refine wpS_skip rfl (fun K hK=>?_);go_big_quiet_op;refine hK _ ?_;clear hK K)|(refine wpS_quiet rfl rfl (fun K hK=>?_);go_big_quiet_op;refine hK _ ?_;clear hK K)|(refine wpS_loud ?_;go_wp2;refine ⟨?_,?_⟩;focus (exact ⟨_,below_over (by repeat (first|assumption|exact Below.refl _ _|refine keep_drew ?_|refine keep_alloc ?_ _|refine keep_trans ?_ (by assumption)))⟩)))
     refine wpS_end ?_
     go_wp2_with fail
     go_roundw
     case rel=>exact ⟨k+1,by omega,by go_num,hskip.out.1,hskip.out.2 _ (htk.out.mono ((Below.refl _ _).drew) htk.out.lt),hbr.drew⟩
     case measure=>simp[intOf];omega
    ·have hx0:0≤cs[k]?.getD 0:=by omega
     have hCI:(C:Int)≠0:=by omega
     have hC0:(0:Int)<(C:Int):=by omega
     have hne:((cs[k]?.getD 0) != -1)=true:=by simp;omega
     have hq:wrap64 ((k:Int) / (C:Int))=((k / C:Nat):Int):=by
      rw[← Int.natCast_ediv]
      have h1:k / C≤k:=Nat.div_le_self _ _
      generalize k / C=q at h1 ⊢
      unfold wrap64
      omega
     have hr2:(k:Int) % (C:Int)=((k % C:Nat):Int):=by rw[← Int.natCast_emod]
     have hi16:k / C<16:=Nat.div_lt_of_lt_mul (by omega)
     have hj16:k % C<16:=Nat.lt_of_lt_of_le (Nat.mod_lt _ (by omega)) hC2
     have hall:∀j:Nat,cs[j]?.getD 0<((32:Nat):Int):=fun j=>by
      by_cases hj:j<n
      ·have:=(HV2.out j hj).2;omega
      ·rw[List.getElem?_eq_none (by rw[HL.out];omega)];decide
     have hR:rowM C cs k (k / C)<4294967296:=maskBy_lt (n:=32) hall
     have hK:colM C cs k (k % C)<4294967296:=maskBy_lt (n:=32) hall
     have hx32:cs[k]?.getD 0<32:=hall k
     by_cases htw:((rowM C cs k (k / C)).testBit (cs[k]?.getD 0).toNat||(colM C cs k (k % C)).testBit (cs[k]?.getD 0).toNat)=true
     ·have HP:Hid (∀W,TkW W bt (rowM C cs k) (colM C cs k)→Calls Try.prog 76 #[.pointer (some ⟨bt,0,none⟩),.int .i64 (wrap64 ((k:Int) / (C:Int))),.int .i64 ((k:Int) % (C:Int)),.int .i64 (cs[k]?.getD 0)] W fun e w'=>e = .returned (.bool false)∧W=w'):=fun W ht=>by
       rw[hq,hr2]
       exact put_no bt _ _ _ _ _ W hi16 hj16 hx0 hx32 hR hK ht.lt (ht.row _ hi16).1 (ht.col _ hj16).1 htw
      have hF:=Lib.hid (twice_at HKL.out hx0 (by simpa using htw))
      rw[hF.out,if_pos rfl] at HS
      clear hq hr2 hi16 hj16 hall hR hK htw hv HV2
      go_wp2_with fail
      refine wp_region_T (fun w'=>∃u,w'=over (wr) u) [0,1,2,3,4,7,8,11] [12,13,14] [(0,5),(0,6),(0,9),(0,10),(2,12),(2,13),(2,14)] (by kernel_rfl) (by kernel_rfl) (by exact ⟨_,below_over (by repeat (first|assumption|exact Below.refl _ _|refine keep_drew ?_|refine keep_alloc ?_ _|refine keep_trans ?_ (by assumption)))⟩) ?_
      dsimp only[pickF,nthOp]
      repeat (first|(refine wpF_skip rfl (fun K hK=>?_);go_big_quiet_op;refine hK _ ?_;clear hK K)|(refine wpF_quiet rfl rfl (fun K hK=>?_);go_big_quiet_op;refine hK _ ?_;clear hK K))
      refine wpF_end ?_
      dsimp only[pickOps,nthOp]
      repeat (first|(refine wpS_skip rfl (fun K hK=>?_);go_big_quiet_op;refine hK _ ?_;clear hK K)|(refine wpS_quiet rfl rfl (fun K hK=>?_);go_big_quiet_op;refine hK _ ?_;clear hK K))
      refine wpS_late _ _ _ rfl ?_
      dsimp only[List.map]
      go_wp2_with ((go_at_call 76;refine (HP.out _ (htk.out.mono ((Below.refl _ _).drew) htk.out.lt)).mono ?_;rintro _ w2 ⟨rfl,rfl⟩))
      refine NoPanic.normal ?_
      go_wp2_with fail
      go_ret
      exact ⟨ret_int HS.out.symm,HW.out.trans ((hbr.mono (by have:=HW.out.size;omega)).drew)⟩
     ·have HP:Hid (∀W,TkW W bt (rowM C cs k) (colM C cs k)→Calls Try.prog 76 #[.pointer (some ⟨bt,0,none⟩),.int .i64 (wrap64 ((k:Int) / (C:Int))),.int .i64 ((k:Int) % (C:Int)),.int .i64 (cs[k]?.getD 0)] W fun e w'=>e = .returned (.bool true)∧TkW w' bt (rowM C cs (k+1)) (colM C cs (k+1))∧Below bt W w'):=fun W ht=>by
       rw[hq,hr2]
       refine (put_yes bt _ _ _ _ _ W hi16 hj16 hx0 hx32 hR hK ht.lt (ht.row _ hi16).1 (ht.col _ hj16).1 (ht.row _ hi16).2 (ht.col _ hj16).2 (by simpa using htw)).mono ?_
       rintro _ w2 ⟨rfl,rfl⟩
       refine ⟨rfl,(ht.put hi16 hj16).same (fun i _=>?_) (fun i _=>?_),Below.drew (Below.setCell (Below.setCell (Below.refl bt W) (p:=⟨bt,k / C,none⟩) (Nat.le_refl bt) _) (p:=⟨bt,16+k % C,none⟩) (Nat.le_refl bt) _)⟩
       ·rw[rowM_succ hx0]
        by_cases e:i=k / C
        ·subst e;rw[if_pos rfl]
        ·rw[if_neg e,if_neg (fun h=>e h.symm)]
       ·rw[colM_succ hx0]
        by_cases e:i=k % C
        ·subst e;rw[if_pos rfl]
        ·rw[if_neg e,if_neg (fun h=>e h.symm)]
      have hN2:Hid (NoTwice C cs (k+1)):=noTwice_succ hnt.out (fun _=>by rw[Bool.not_eq_true,Bool.or_eq_false_iff] at htw;exact htw)
      clear hq hr2 hi16 hj16 hall hR hK htw hv HV2
      go_wp2_with fail
      refine wp_region_T (fun w'=>∃u,w'=over (wr) u) [0,1,2,3,4,7,8,11] [12,13,14] [(0,5),(0,6),(0,9),(0,10),(2,12),(2,13),(2,14)] (by kernel_rfl) (by kernel_rfl) (by exact ⟨_,below_over (by repeat (first|assumption|exact Below.refl _ _|refine keep_drew ?_|refine keep_alloc ?_ _|refine keep_trans ?_ (by assumption)))⟩) ?_
      dsimp only[pickF,nthOp]
      repeat (first|(refine wpF_skip rfl (fun K hK=>?_);go_big_quiet_op;refine hK _ ?_;clear hK K)|(refine wpF_quiet rfl rfl (fun K hK=>?_);go_big_quiet_op;refine hK _ ?_;clear hK K))
      refine wpF_end ?_
      dsimp only[pickOps,nthOp]
      repeat (first|(refine wpS_skip rfl (fun K hK=>?_);go_big_quiet_op;refine hK _ ?_;clear hK K)|(refine wpS_quiet rfl rfl (fun K hK=>?_);go_big_quiet_op;refine hK _ ?_;clear hK K))
      refine wpS_late _ _ _ rfl ?_
      dsimp only[List.map]
      go_wp2_with ((go_at_call 76;refine (HP.out _ (htk.out.mono ((Below.refl _ _).drew) htk.out.lt)).mono ?_;rintro _ w2 ⟨rfl,htk2,hb2⟩))
      refine NoPanic.normal ?_
      go_wp2_with fail
      go_roundw
      case rel=>exact ⟨k+1,by omega,by go_num,hN2.out,htk2,hbr.trans (((Below.refl _ _).drew).trans hb2)⟩
      case measure=>simp[intOf];omega
   ·have e:k=n:=by omega
    subst e
    have hF:=Lib.hid (noTwice_end (by rw[HL.out];exact hnt.out))
    rw[hF.out,if_neg (by decide)] at HS
    go_wp2_with fail
    go_ret
    exact ⟨ret_int HS.out.symm,HW.out.trans (hbr.mono (by have:=HW.out.size;omega))⟩
end
section
open Go Go.RowKit
attribute [local go_sem] over_cell
attribute [local go_sem] Oper.semAt_some
theorem sq_c (r C:Int) (a:Option Addr) (n c:Nat) (cs:List Int) (low:Int) (w:World) (h:IC w a n cs) (hlow : -1≤low) :
  Calls Try.prog 27 #[.agg #[.int .i64 r,.int .i64 C,.slice a n c],.int .i64 low] w fun e w'=>e = .returned (.int .i64 (sqE low r C cs))∧Below w.heap.size w w':=by
 have hsm:=h.small
 have hlen:=h.len
 have HO:=Lib.hid (fun W=>isOrder_c r W)
 by_cases hrc:r=C
 ·subst hrc
  by_cases ho:1≤r∧r≤16
  ·obtain ⟨N,rfl⟩:=Int.eq_ofNat_of_zero_le (show 0≤r by omega)
   have hN1:1≤N:=by omega
   have hN2:N≤16:=by omega
   have hmul:wrap64 ((N:Int)*(N:Int))=((N*N:Nat):Int):=by
    rw[← Int.natCast_mul]
    have h1:N*N≤16*16:=Nat.mul_le_mul hN2 hN2
    generalize N*N=q at h1 ⊢
    unfold wrap64
    omega
   have hO:(decide (1≤(N:Int))&&decide ((N:Int)≤16))=true:=by rw[decide_eq_true ho.1,decide_eq_true ho.2];rfl
   rw[hO] at HO
   by_cases hn:n=N*N
   ·have HE:Hid (sqE low (N:Int) (N:Int) cs=symE low N cs):=by
     unfold Hid sqE sqB
     rw[if_pos (by simp only[Bool.and_eq_true,decide_eq_true_eq];exact ⟨⟨⟨trivial,ho.1⟩,ho.2⟩,by rw[hlen,hn,Int.natCast_mul]⟩)]
     rfl
    have HC:=Lib.hid (fun W (hb:Below w.heap.size w W)=>chk_c (N:Int) N a n c cs low W (h.mono hb) hN1 hN2 hlow (by rw[hn];exact Nat.mul_le_mul_left N hN2))
    have hnm:((n:Int) != wrap64 ((N:Int)*(N:Int)))=false:=by rw[hmul,hn];simp
    clear h hlen ho hO hmul hn
    go_enter Try.func27,Try.ntmps27
    go_wp2_with fail
    have fsz:(w.alloc (.cells #[.int .i64 (N:Int),.int .i64 (N:Int),.slice a n c] 31)).heap.size=w.heap.size+1:=by simp only[World.size_alloc]
    have fB:Below w.heap.size w (w.alloc (.cells #[.int .i64 (N:Int),.int .i64 (N:Int),.slice a n c] 31)):=(Below.refl _ _).alloc (Nat.le_refl _) _
    have fq0:(w.alloc (.cells #[.int .i64 (N:Int),.int .i64 (N:Int),.slice a n c] 31)).heap[w.heap.size]?=some (.cells #[.int .i64 (N:Int),.int .i64 (N:Int),.slice a n c] 31 (0,0)):=by have h:=World.alloc_heap_new w (.cells #[.int .i64 (N:Int),.int .i64 (N:Int),.slice a n c] 31);exact h
    generalize (w.alloc (.cells #[.int .i64 (N:Int),.int .i64 (N:Int),.slice a n c] 31))=W0 at fsz fB fq0 ⊢
    obtain ⟨x0,x1,x2,xl⟩:W0.cell? ⟨w.heap.size,0,none⟩=some (.int .i64 (N:Int))∧W0.cell? ⟨w.heap.size,1,none⟩=some (.int .i64 (N:Int))∧W0.cell? ⟨w.heap.size,2,none⟩=some (.slice a n c)∧w.heap.size<W0.heap.size:=⟨q_cell fq0 0,q_cell fq0 1,q_cell fq0 2,q_lt fq0⟩
    clear fq0 fsz
    go_wp2_with (first|(go_at_call 45;refine (HO.out _).mono ?_;rintro _ w1 ⟨rfl,rfl⟩)|(go_at_call 46;refine (HC.out _ fB).mono ?_;rintro _ w1 ⟨rfl,hb1⟩))
    go_ret
    exact ⟨ret_int HE.out.symm,keep_trans fB hb1⟩
   ·have HE:Hid (sqE low (N:Int) (N:Int) cs=2):=by
     unfold Hid sqE sqB
     rw[if_neg (by simp only[Bool.and_eq_true,decide_eq_true_eq];rintro ⟨_,e⟩;rw[hlen,← Int.natCast_mul] at e;exact hn (Int.ofNat.inj e))]
    have hnm:((n:Int) != wrap64 ((N:Int)*(N:Int)))=true:=by rw[hmul,bne_iff_ne];exact fun e=>hn (Int.ofNat.inj e)
    clear h hlen ho hO hmul hn
    go_enter Try.func27,Try.ntmps27
    go_wp2_with fail
    have fsz:(w.alloc (.cells #[.int .i64 (N:Int),.int .i64 (N:Int),.slice a n c] 31)).heap.size=w.heap.size+1:=by simp only[World.size_alloc]
    have fB:Below w.heap.size w (w.alloc (.cells #[.int .i64 (N:Int),.int .i64 (N:Int),.slice a n c] 31)):=(Below.refl _ _).alloc (Nat.le_refl _) _
    have fq0:(w.alloc (.cells #[.int .i64 (N:Int),.int .i64 (N:Int),.slice a n c] 31)).heap[w.heap.size]?=some (.cells #[.int .i64 (N:Int),.int .i64 (N:Int),.slice a n c] 31 (0,0)):=by have h:=World.alloc_heap_new w (.cells #[.int .i64 (N:Int),.int .i64 (N:Int),.slice a n c] 31);exact h
    generalize (w.alloc (.cells #[.int .i64 (N:Int),.int .i64 (N:Int),.slice a n c] 31))=W0 at fsz fB fq0 ⊢
    obtain ⟨x0,x1,x2,xl⟩:W0.cell? ⟨w.heap.size,0,none⟩=some (.int .i64 (N:Int))∧W0.cell? ⟨w.heap.size,1,none⟩=some (.int .i64 (N:Int))∧W0.cell? ⟨w.heap.size,2,none⟩=some (.slice a n c)∧w.heap.size<W0.heap.size:=⟨q_cell fq0 0,q_cell fq0 1,q_cell fq0 2,q_lt fq0⟩
    clear fq0 fsz
    go_wp2_with (first|(go_at_call 45;refine (HO.out _).mono ?_;rintro _ w1 ⟨rfl,rfl⟩))
    go_ret
    exact ⟨ret_int HE.out.symm,fB⟩
  ·have HE:Hid (sqE low r r cs=2):=by
    unfold Hid sqE sqB
    rw[if_neg (by simp only[Bool.and_eq_true,decide_eq_true_eq];rintro ⟨⟨⟨_,e1⟩,e2⟩,_⟩;exact ho ⟨e1,e2⟩)]
   have hO:(decide (1≤r)&&decide (r≤16))=false:=by
    rw[Bool.eq_false_iff];intro e;rw[Bool.and_eq_true,decide_eq_true_eq,decide_eq_true_eq] at e;exact ho e
   rw[hO] at HO
   clear h hlen ho hO
   go_enter Try.func27,Try.ntmps27
   go_wp2_with fail
   have fsz:(w.alloc (.cells #[.int .i64 r,.int .i64 r,.slice a n c] 31)).heap.size=w.heap.size+1:=by simp only[World.size_alloc]
   have fB:Below w.heap.size w (w.alloc (.cells #[.int .i64 r,.int .i64 r,.slice a n c] 31)):=(Below.refl _ _).alloc (Nat.le_refl _) _
   have fq0:(w.alloc (.cells #[.int .i64 r,.int .i64 r,.slice a n c] 31)).heap[w.heap.size]?=some (.cells #[.int .i64 r,.int .i64 r,.slice a n c] 31 (0,0)):=by have h:=World.alloc_heap_new w (.cells #[.int .i64 r,.int .i64 r,.slice a n c] 31);exact h
   generalize (w.alloc (.cells #[.int .i64 r,.int .i64 r,.slice a n c] 31))=W0 at fsz fB fq0 ⊢
   obtain ⟨x0,x1,x2,xl⟩:W0.cell? ⟨w.heap.size,0,none⟩=some (.int .i64 r)∧W0.cell? ⟨w.heap.size,1,none⟩=some (.int .i64 r)∧W0.cell? ⟨w.heap.size,2,none⟩=some (.slice a n c)∧w.heap.size<W0.heap.size:=⟨q_cell fq0 0,q_cell fq0 1,q_cell fq0 2,q_lt fq0⟩
   clear fq0 fsz
   go_wp2_with (first|(go_at_call 45;refine (HO.out _).mono ?_;rintro _ w1 ⟨rfl,rfl⟩))
   go_ret
   exact ⟨ret_int HE.out.symm,fB⟩
 ·have HE:Hid (sqE low r C cs=2):=by
   unfold Hid sqE sqB
   rw[if_neg (by simp only[Bool.and_eq_true,decide_eq_true_eq];rintro ⟨⟨⟨e,_⟩,_⟩,_⟩;exact hrc e)]
  have hne:(r != C)=true:=by simpa using hrc
  clear h hlen hrc
  go_enter Try.func27,Try.ntmps27
  go_wp2_with fail
  have fsz:(w.alloc (.cells #[.int .i64 r,.int .i64 C,.slice a n c] 31)).heap.size=w.heap.size+1:=by simp only[World.size_alloc]
  have fB:Below w.heap.size w (w.alloc (.cells #[.int .i64 r,.int .i64 C,.slice a n c] 31)):=(Below.refl _ _).alloc (Nat.le_refl _) _
  have fq0:(w.alloc (.cells #[.int .i64 r,.int .i64 C,.slice a n c] 31)).heap[w.heap.size]?=some (.cells #[.int .i64 r,.int .i64 C,.slice a n c] 31 (0,0)):=by have h:=World.alloc_heap_new w (.cells #[.int .i64 r,.int .i64 C,.slice a n c] 31);exact h
  generalize (w.alloc (.cells #[.int .i64 r,.int .i64 C,.slice a n c] 31))=W0 at fsz fB fq0 ⊢
  obtain ⟨x0,x1,x2,xl⟩:W0.cell? ⟨w.heap.size,0,none⟩=some (.int .i64 r)∧W0.cell? ⟨w.heap.size,1,none⟩=some (.int .i64 C)∧W0.cell? ⟨w.heap.size,2,none⟩=some (.slice a n c)∧w.heap.size<W0.heap.size:=⟨q_cell fq0 0,q_cell fq0 1,q_cell fq0 2,q_lt fq0⟩
  clear fq0 fsz
  go_wp2_with fail
  go_ret
  exact ⟨ret_int HE.out.symm,fB⟩
theorem latcheck_c (r C:Int) (a:Option Addr) (n c:Nat) (cs:List Int) (w:World) (h:IC w a n cs) :
  Calls Try.prog 10 #[.agg #[.int .i64 r,.int .i64 C,.slice a n c]] w fun e w'=>e = .returned (.int .i64 (sqE 0 r C cs))∧Below w.heap.size w w':=by
 have HC:=Lib.hid (fun W (hb:Below w.heap.size w W)=>sq_c r C a n c cs 0 W (h.mono hb) (by decide))
 clear h
 generalize sqE 0 r C cs=v at HC ⊢
 go_enter Try.func10,Try.ntmps10
 go_wp2_with fail
 have fsz:(w.alloc (.cells #[.int .i64 r,.int .i64 C,.slice a n c] 31)).heap.size=w.heap.size+1:=by simp only[World.size_alloc]
 have fB:Below w.heap.size w (w.alloc (.cells #[.int .i64 r,.int .i64 C,.slice a n c] 31)):=(Below.refl _ _).alloc (Nat.le_refl _) _
 have fq0:(w.alloc (.cells #[.int .i64 r,.int .i64 C,.slice a n c] 31)).heap[w.heap.size]?=some (.cells #[.int .i64 r,.int .i64 C,.slice a n c] 31 (0,0)):=by have h:=World.alloc_heap_new w (.cells #[.int .i64 r,.int .i64 C,.slice a n c] 31);exact h
 generalize (w.alloc (.cells #[.int .i64 r,.int .i64 C,.slice a n c] 31))=W0 at fsz fB fq0 ⊢
 obtain ⟨x0,x1,x2,xl⟩:W0.cell? ⟨w.heap.size,0,none⟩=some (.int .i64 r)∧W0.cell? ⟨w.heap.size,1,none⟩=some (.int .i64 C)∧W0.cell? ⟨w.heap.size,2,none⟩=some (.slice a n c)∧w.heap.size<W0.heap.size:=⟨q_cell fq0 0,q_cell fq0 1,q_cell fq0 2,q_lt fq0⟩
 clear fq0 fsz
 go_wp2_with (first|(go_at_call 27;refine (HC.out _ fB).mono ?_;rintro _ w1 ⟨rfl,hb1⟩))
 go_ret
 exact ⟨rfl,keep_trans fB hb1⟩
end
section
open Go Go.RowKit
attribute [local go_sem] over_cell
attribute [local go_sem] Oper.semAt_some
theorem lat_c (r:Int) (N i j:Nat) (a:Option Addr) (n c:Nat) (cs:List Int) (w:World) (h:IC w a n cs) (hN:N≤256) (hi:i≤256) (hj:j<N) (hk:i*N+j<n) :
  Calls Try.prog 55 #[.agg #[.int .i64 r,.int .i64 (N:Int),.slice a n c],.int .i64 (i:Int),.int .i64 (j:Int)] w fun e w'=>e = .returned (.int .i64 (cs[i*N+j]?.getD 0))∧Below w.heap.size w w':=by
 have hq:i*N≤256*256:=Nat.mul_le_mul hi hN
 obtain ⟨q,hq1⟩:∃q,q=i*N:=⟨_,rfl⟩
 rw[← hq1] at hq hk ⊢
 have hmul:wrap64 ((i:Int)*(N:Int))=(q:Int):=by rw[← Int.natCast_mul,← hq1];unfold wrap64;omega
 have hqi:(q:Int)+(j:Int)<(n:Int):=by omega
 obtain ⟨b,off,rfl,hb,hc⟩:=h.2 (q+j) hk
 have hj1:j<256:=by omega
 clear hq1 h
 generalize cs[q+j]?.getD 0=x at hc ⊢
 go_enter Try.func55,Try.ntmps55
 go_upto_region 1 with fail
 have fsz:(w.alloc (.cells #[.int .i64 r,.int .i64 (N:Int),.slice (some ⟨b,off,none⟩) n c] 31)).heap.size=w.heap.size+1:=by simp only[World.size_alloc]
 have fB:Below w.heap.size w (w.alloc (.cells #[.int .i64 r,.int .i64 (N:Int),.slice (some ⟨b,off,none⟩) n c] 31)):=(Below.refl _ _).alloc (Nat.le_refl _) _
 have fq0:(w.alloc (.cells #[.int .i64 r,.int .i64 (N:Int),.slice (some ⟨b,off,none⟩) n c] 31)).heap[w.heap.size]?=some (.cells #[.int .i64 r,.int .i64 (N:Int),.slice (some ⟨b,off,none⟩) n c] 31 (0,0)):=by have h:=World.alloc_heap_new w (.cells #[.int .i64 r,.int .i64 (N:Int),.slice (some ⟨b,off,none⟩) n c] 31);exact h
 generalize (w.alloc (.cells #[.int .i64 r,.int .i64 (N:Int),.slice (some ⟨b,off,none⟩) n c] 31))=W0 at fsz fB fq0 ⊢
 have x1:W0.cell? ⟨w.heap.size,1,none⟩=some (.int .i64 (N:Int)):=q_cell fq0 1
 have x2:W0.cell? ⟨w.heap.size,2,none⟩=some (.slice (some ⟨b,off,none⟩) n c):=q_cell fq0 2
 have xl:=q_lt fq0
 have hc3:=((bcell fB).1 b (off+(q+j)) hb).trans hc
 have hb3:=Nat.lt_of_lt_of_le hb fB.size
 clear fq0 fsz hc
 go_wp2
 go_ret
 exact ⟨rfl,fB⟩
theorem tmod_up (x:Int) (n:Int):(x.tmod n+n) % n=x % n:=by
 rw[Int.add_emod_right,Int.tmod_def,Int.sub_mul_emod_self_left]
theorem modulo_c (x:Int) (n:Nat) (w:World) (hn:1≤n) (hn2:n≤1000000) :
  Calls Try.prog 80 #[.int .i64 x,.int .i64 (n:Int)] w fun e w'=>e = .returned (.int .i64 (x % (n:Int)))∧w=w':=by
 have hne:(n:Int)≠0:=by omega
 have hb:=Int.lt_tmod_of_pos x (show (0:Int)<(n:Int) by omega)
 have hb2:=Int.tmod_lt_of_pos x (show (0:Int)<(n:Int) by omega)
 go_enter Try.func80,Try.ntmps80
 go_wp2
 go_ret
 exact ⟨ret_int (tmod_up _ _),rfl⟩
end
section
open Go Go.RowKit
theorem run_append_nothing {P:Program} (w:World) (t ty e:TypeId) (i:TypeInfo) (ht:P.underlying t=some (.slice e)) (hi:P.info? e=some i) (b:Option Addr) (n cap c:Nat) (h:n≤cap) :
  (Builtin.append_ #[t,t] ty #[.slice b n cap,.slice none 0 c]).run P w = .ok (.slice b n cap) w:=by
 cases b with
 | none=>simp[Builtin.append_,run_underlying ht,sizeOf,typeInfo,hi,Builtin.lenOf,Builtin.firstCells,h]
 | some a=>simp[Builtin.append_,run_underlying ht,sizeOf,typeInfo,hi,Builtin.lenOf,Builtin.firstCells,h,storeCells]
def SrcOk (w:World) (ad:Option Addr) (m:Nat) (news:List Value):Prop:=(∃p,ad=some p∧∀j u,news[j]?=some u→w.cell? (p.add j)=some u)∨(ad=none∧m=0)
theorem wpList_append_any {P:Program} (w:World) {ops:Array Oper} {rest:List Oper} {o:Oper} {a:Act} {Q:Exit→Act→World→Prop} (hgd:o.guard=none) (s x:Operand) (t:TypeId)
  (ho:o.op = .call { callee := .builtin .append,args:=#[s,x],argTypes:=#[t,t] })
  (B:Nat) (e:TypeId) (i:TypeInfo) (z:Value) (bytes:Nat) (ht:P.underlying t=some (.slice e)) (hi:P.info? e=some i) (hz:i.zero=some z)
  (hsize:i.size=1) (hby:i.bytes=bytes) (hzs:z.cells.size=1)
  (v:Value) (n:Nat) (xs:List Value) (hs:a.eval s=v) (hown:w.ownsRow B e 1 v n xs) (hB:B≤w.heap.size)
  (ad:Option Addr) (m c:Nat) (news:List Value) (hx:a.eval x = .slice ad m c) (hl:news.length=m) (hnews:SrcOk w ad m news) (h1:∀u∈news,u.oneCell'=true)
  (h63:n+m≤maxLen) (hbytes:(n+m)*bytes≤140737488355328)
  (h:∀v' w',w'.ownsRow B e 1 v' (n+m) (xs++news)→Stays (fun k=>v.ownBlock=some k) w w'→(∀k,v'.ownBlock=some k→v.ownBlock=some k∨w.heap.size≤k)→wpList P ops Q rest (a.put o.dst v') w'):wpList P ops Q (o :: rest) a w:=by
 rcases hnews with ⟨p,rfl,hn⟩|⟨rfl,rfl⟩
 ·refine wpList_append_own2 w hgd s x t ho e i z 1 bytes ht hi hz hsize hby hzs (by decide) v n xs hs (owns_base hown (Nat.zero_le _)) p m c news hx (by omega) hn h1 h63 hbytes ?_
  intro v' w' ho' hg hk
  refine h v' w' ?_ (Stays.grown hg (fun k e=>e)) hk
  refine ⟨ho'.1,ho'.2.imp id ?_⟩
  rintro ⟨g,cap,cur,rfl,_,r⟩
  refine ⟨g,cap,cur,rfl,?_,r⟩
  rcases hk g rfl with e|e
  ·exact (hown.lt g e).1
  ·omega
 ·have hn:news=[]:=List.eq_nil_of_length_eq_zero hl
  subst hn
  obtain ⟨b,cap,hv,hcap⟩:∃b cap,v = .slice b n cap∧n≤cap:=by
   rcases hown.2 with ⟨h2,h3⟩|⟨g,cap,cur,h2,_,_,h3,_⟩
   ·exact ⟨none,0,by rw[h2,h3],by omega⟩
   ·exact ⟨_,cap,h2,h3⟩
  refine wpList_plain hgd fun _ hK=>?_
  have hr:=run_append_nothing (P:=P) w t o.type e i ht hi b n cap c hcap
  unfold Oper.wp execOp
  simp only[ho,resolve,invoke,builtin,Sem.run_bind,Sem.run_pure,Result.andThen_ok,List.map_toArray,List.map_cons,List.map_nil,hs,hv,hx,hr]
  refine hK _ _ ?_
  rw[← hv]
  exact h v w (by simpa using hown) (Stays.refl _ _) (fun k e => .inl e)
end
end Go.Proofs.Ytpkghjoippcjeaa
