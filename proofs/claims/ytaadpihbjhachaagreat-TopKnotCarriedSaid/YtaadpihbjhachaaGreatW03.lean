/- Texts C6 to C9 of this proof, in one file. -/
import Derived.Test.YtaadpihbjhachaaGreatW02
namespace Go.Proofs.YtaadpihbjhachaaGreat
set_option maxRecDepth 100000
set_option maxHeartbeats 16000000
section
open Go Go.RowKit
attribute [local go_sem] over_cell
def SetC (w:World) (b off M:Nat):Prop:=∀q,q<4→w.cell? ⟨b,off+q,none⟩=some (.int .u64 ((word M q:Nat):Int))
def PutW (w w':World) (b off M M':Nat):Prop :=
 ∃q,q<4∧w'=(w.setCell ⟨b,off+q,none⟩ (.int .u64 ((word M' q:Nat):Int))).drew∧∀q',q'≠q→word M' q'=word M q'
theorem bit_split {x:Int} (h1:1≤x):((x - 1) / 64).toNat=(x.toNat - 1) / 64∧((x - 1) % 64).toNat=(x.toNat - 1) % 64∧x.toNat - 1=64*((x.toNat - 1) / 64)+(x.toNat - 1) % 64:=by
 refine ⟨by omega,by omega,by omega⟩
theorem and_one_bit (v r:Nat) (hv:v<18446744073709551616):(bits BinOp.and IntKind.u64 ((v:Int) / 2 ^ r) 1==1)=v.testBit r:=by
 have e:((v:Int) / 2 ^ r)=((v / 2 ^ r:Nat):Int):=by simp
 have hlt:v / 2 ^ r<18446744073709551616:=Nat.lt_of_le_of_lt (Nat.div_le_self _ _) hv
 rw[e,show (1:Int)=((1:Nat):Int) from rfl,u64_and_nat _ _ hlt (by decide)]
 rw[Nat.testBit_eq_decide_div_mod_eq,Nat.and_one_is_mod]
 have:v / 2 ^ r % 2=0∨v / 2 ^ r % 2=1:=by omega
 rcases this with h|h <;> simp[h]
theorem or_bit (v r:Nat) (hv:v<18446744073709551616) (hr:r<64):bits BinOp.or IntKind.u64 (v:Int) (IntKind.u64.wrap (2 ^ r))=((v ||| 2 ^ r:Nat):Int):=by
 have h2:2 ^ r<18446744073709551616:=by
  rw[show (18446744073709551616:Nat)=2 ^ 64 from by decide];exact Nat.pow_lt_pow_right (by decide) hr
 have e:IntKind.u64.wrap (2 ^ r)=((2 ^ r:Nat):Int):=by
  rw[IntKind.wrap_u64]
  have:((2:Int) ^ r)=((2 ^ r:Nat):Int):=by simp
  rw[this]
  generalize 2 ^ r=m at h2 ⊢
  omega
 rw[e,u64_or_nat _ _ hv h2]
theorem andNot_bit (v r:Nat) (hv:v<18446744073709551616) (hr:r<64):bits BinOp.andNot IntKind.u64 (v:Int) (IntKind.u64.wrap (2 ^ r))=((v &&& (18446744073709551615 - 2 ^ r):Nat):Int):=by
 have h2:2 ^ r<18446744073709551616:=by
  rw[show (18446744073709551616:Nat)=2 ^ 64 from by decide];exact Nat.pow_lt_pow_right (by decide) hr
 have e:IntKind.u64.wrap (2 ^ r)=((2 ^ r:Nat):Int):=by
  rw[IntKind.wrap_u64]
  have:((2:Int) ^ r)=((2 ^ r:Nat):Int):=by simp
  rw[this]
  generalize 2 ^ r=m at h2 ⊢
  omega
 rw[e,u64_andNot_nat _ _ hv h2]
theorem shas_c (b off M:Nat) (x:Int) (w:World) (h:SetC w b off M) (hx1:1≤x) (hx2:x≤256) :
  Calls Tryz.prog 147 #[.pointer (some ⟨b,off,none⟩),.int .i64 x] w fun e w'=>e = .returned (.bool (M.testBit (x.toNat - 1)))∧w=w':=by
 have hs:=bit_split hx1
 have hc0:=h ((x.toNat - 1) / 64) (by omega)
 have hc:w.cell? ⟨b,off+((x - 1) / 64).toNat,none⟩=some (.int .u64 ((word M ((x.toNat - 1) / 64):Nat):Int)):=by rw[hs.1];exact hc0
 clear hc0
 have hE:Hid ((bits BinOp.and IntKind.u64 (((word M ((x.toNat - 1) / 64):Nat):Int) / 2 ^ ((x - 1) % 64).toNat) 1==1)=M.testBit (x.toNat - 1)):=by
  unfold Hid
  rw[and_one_bit _ _ (word_lt _ _),hs.2.1,testBit_word _ _ _ (Nat.mod_lt _ (by decide)),← hs.2.2]
 clear hs
 generalize word M ((x.toNat - 1) / 64)=v at hc hE
 have h1:(0:Int)≤x - 1:=by omega
 have h2:(x - 1) / 64<4:=by omega
 have h2':0≤(x - 1) / 64:=by omega
 have h3:(x - 1) % 64<64:=by omega
 have h3':0≤(x - 1) % 64:=by omega
 go_enter Tryz.func147,Tryz.ntmps147
 go_wp2
 go_ret
 exact ⟨ret_bool hE.out,rfl⟩
theorem sput_c (b off M:Nat) (x:Int) (w:World) (h:SetC w b off M) (hx1:1≤x) (hx2:x≤256) (hb:b<w.heap.size) (hfz:∀q,q<4→w.frozen? ⟨b,off+q,none⟩=false) :
  Calls Tryz.prog 146 #[.pointer (some ⟨b,off,none⟩),.int .i64 x] w fun e w'=>e = .returned (.tuple #[])∧PutW w w' b off M (M ||| 2 ^ (x.toNat - 1)):=by
 have hs:=bit_split hx1
 have hc0:=h ((x.toNat - 1) / 64) (by omega)
 have hc:w.cell? ⟨b,off+((x - 1) / 64).toNat,none⟩=some (.int .u64 ((word M ((x.toNat - 1) / 64):Nat):Int)):=by rw[hs.1];exact hc0
 have hz:w.frozen? ⟨b,off+((x - 1) / 64).toNat,none⟩=false:=by rw[hs.1];exact hfz _ (by omega)
 clear hc0
 have hr:(x.toNat - 1) % 64<64:=Nat.mod_lt _ (by decide)
 have hE:Hid (bits BinOp.or IntKind.u64 ((word M ((x.toNat - 1) / 64):Nat):Int) (IntKind.u64.wrap (2 ^ ((x - 1) % 64).toNat))=((word (M ||| 2 ^ (x.toNat - 1)) ((x.toNat - 1) / 64):Nat):Int)):=by
  unfold Hid
  rw[hs.2.1,or_bit _ _ (word_lt _ _) hr]
  conv=>rhs;rw[hs.2.2,word_or _ _ _ _ hr,if_pos (by omega)]
  congr 3
  omega
 have hO:Hid (∀q',q'≠(x.toNat - 1) / 64→word (M ||| 2 ^ (x.toNat - 1)) q'=word M q'):=by
  intro q' hq
  rw[hs.2.2,word_or _ _ _ _ hr,if_neg (by omega)]
 have hA:=Lib.hid hs.1
 clear hs hr
 have hq:(x.toNat - 1) / 64<4:=by omega
 generalize (x.toNat - 1) / 64=qq at *
 generalize word M qq=v at hc hE
 have h1:(0:Int)≤x - 1:=by omega
 have h2:(x - 1) / 64<4:=by omega
 have h2':0≤(x - 1) / 64:=by omega
 have h3:(x - 1) % 64<64:=by omega
 have h3':0≤(x - 1) % 64:=by omega
 clear h hfz
 go_enter Tryz.func146,Tryz.ntmps146
 go_wp2
 refine wp_region_S (fun w'=>∃u,w'=over (w) u) [14] [(0,0),(0,1),(0,2),(0,3),(0,4),(0,5),(0,6),(0,7),(0,8),(0,9),(0,10),(0,11),(0,12),(0,13),(2,14)] (by kernel_rfl) (by kernel_rfl) (by exact ⟨_,below_over (by repeat (first|assumption|exact Below.refl _ _|refine keep_drew ?_|refine keep_alloc ?_ _|refine keep_trans ?_ (by assumption)))⟩) ?_
 dsimp only[pickOps,nthOp]
 repeat (first|(refine wpS_skip rfl (fun K hK=>?_);go_big_quiet_op;refine hK _ ?_;clear hK K)|(refine wpS_quiet rfl rfl (fun K hK=>?_);go_big_quiet_op;refine hK _ ?_;clear hK K))
 refine wpS_late _ _ _ rfl ?_
 dsimp only[List.map]
 go_wp2
 refine NoPanic.normal ?_
 go_wp2
 go_end0
 exact ⟨rfl,qq,hq,by rw[hE.out,hA.out],hO.out⟩
theorem sdrop_c (b off M:Nat) (x:Int) (w:World) (h:SetC w b off M) (hx1:1≤x) (hx2:x≤256) (hb:b<w.heap.size) (hfz:∀q,q<4→w.frozen? ⟨b,off+q,none⟩=false) :
  Calls Tryz.prog 160 #[.pointer (some ⟨b,off,none⟩),.int .i64 x] w fun e w'=>e = .returned (.tuple #[])∧PutW w w' b off M (clearBit M (x.toNat - 1)):=by
 have hs:=bit_split hx1
 have hc0:=h ((x.toNat - 1) / 64) (by omega)
 have hc:w.cell? ⟨b,off+((x - 1) / 64).toNat,none⟩=some (.int .u64 ((word M ((x.toNat - 1) / 64):Nat):Int)):=by rw[hs.1];exact hc0
 have hz:w.frozen? ⟨b,off+((x - 1) / 64).toNat,none⟩=false:=by rw[hs.1];exact hfz _ (by omega)
 clear hc0
 have hr:(x.toNat - 1) % 64<64:=Nat.mod_lt _ (by decide)
 have hE:Hid (bits BinOp.andNot IntKind.u64 ((word M ((x.toNat - 1) / 64):Nat):Int) (IntKind.u64.wrap (2 ^ ((x - 1) % 64).toNat))=((word (clearBit M (x.toNat - 1)) ((x.toNat - 1) / 64):Nat):Int)):=by
  unfold Hid
  rw[hs.2.1,andNot_bit _ _ (word_lt _ _) hr]
  conv=>rhs;rw[hs.2.2,word_clear _ _ _ _ hr,if_pos (by omega)]
  congr 3
  omega
 have hO:Hid (∀q',q'≠(x.toNat - 1) / 64→word (clearBit M (x.toNat - 1)) q'=word M q'):=by
  intro q' hq
  rw[hs.2.2,word_clear _ _ _ _ hr,if_neg (by omega)]
 have hA:=Lib.hid hs.1
 clear hs hr
 have hq:(x.toNat - 1) / 64<4:=by omega
 generalize (x.toNat - 1) / 64=qq at *
 generalize word M qq=v at hc hE
 have h1:(0:Int)≤x - 1:=by omega
 have h2:(x - 1) / 64<4:=by omega
 have h2':0≤(x - 1) / 64:=by omega
 have h3:(x - 1) % 64<64:=by omega
 have h3':0≤(x - 1) % 64:=by omega
 clear h hfz
 go_enter Tryz.func160,Tryz.ntmps160
 go_wp2
 refine wp_region_S (fun w'=>∃u,w'=over (w) u) [14] [(0,0),(0,1),(0,2),(0,3),(0,4),(0,5),(0,6),(0,7),(0,8),(0,9),(0,10),(0,11),(0,12),(0,13),(2,14)] (by kernel_rfl) (by kernel_rfl) (by exact ⟨_,below_over (by repeat (first|assumption|exact Below.refl _ _|refine keep_drew ?_|refine keep_alloc ?_ _|refine keep_trans ?_ (by assumption)))⟩) ?_
 dsimp only[pickOps,nthOp]
 repeat (first|(refine wpS_skip rfl (fun K hK=>?_);go_big_quiet_op;refine hK _ ?_;clear hK K)|(refine wpS_quiet rfl rfl (fun K hK=>?_);go_big_quiet_op;refine hK _ ?_;clear hK K))
 refine wpS_late _ _ _ rfl ?_
 dsimp only[List.map]
 go_wp2
 refine NoPanic.normal ?_
 go_wp2
 go_end0
 exact ⟨rfl,qq,hq,by rw[hE.out,hA.out],hO.out⟩
end
section
open Go Go.RowKit
attribute [local go_sem] over_cell
def aboveM (M x:Nat):Nat:=match (List.range 257).find? (fun j=>decide (x<j)&&M.testBit (j - 1)) with|some j=>j|none=>0
theorem aboveM_hit {M x k:Nat} (h:∀j,x<j→j<k→M.testBit (j - 1)=false) (hx:x<k) (hk:k≤256) (hb:M.testBit (k - 1)=true):aboveM M x=k:=by
 have:(List.range 257).find? (fun j=>decide (x<j)&&M.testBit (j - 1))=some k:=by
  rw[List.find?_range_eq_some]
  refine ⟨by simp[hx,hb],by simp;omega,fun j hj=>?_⟩
  by_cases e:x<j
  ·simp[e,h j e hj]
  ·simp[e]
 simp[aboveM,this]
theorem aboveM_none {M x:Nat} (h:∀j,x<j→j≤256→M.testBit (j - 1)=false):aboveM M x=0:=by
 have:(List.range 257).find? (fun j=>decide (x<j)&&M.testBit (j - 1))=none:=by
  rw[List.find?_range_eq_none]
  intro j hj
  by_cases e:x<j
  ·simp[e,h j e (by omega)]
  ·simp[e]
 simp[aboveM,this]
theorem word_zero {M q:Nat} (h:word M q=0) (j:Nat) (h1:64*q<j) (h2:j≤64*q+64):M.testBit (j - 1)=false:=by
 have:=testBit_word M q (j - 1 - 64*q) (by omega)
 rw[h,show 64*q+(j - 1 - 64*q)=j - 1 from by omega] at this
 simpa using this.symm
theorem above_c (b off M x:Nat) (w:World) (h:SetC w b off M) (hx:x≤256) :
  Calls Tryz.prog 162 #[.pointer (some ⟨b,off,none⟩),.int .i64 x] w fun e w'=>e = .returned (.int .i64 (aboveM M x:Nat))∧w=w':=by
 go_enter Tryz.func162,Tryz.ntmps162
 go_wp2
 go_loop [5] (fun i=>∃k:Nat,x<k∧k≤320∧i = .int .i64 k∧Hid (∀j,x<j→j<k→M.testBit (j - 1)=false)) (fun i=>400 - (intOf i).toNat)
 case atStart=>exact ⟨x+1,by omega,by omega,by go_num,fun j h1 h2=>absurd h2 (by omega)⟩
 case round =>
  obtain ⟨k,hxk,hk,rfl,hn⟩:=hrel
  by_cases hle:k≤256
  ·by_cases hm:k % 64=1
   ·have hm':((k:Int) % 64==1)=true:=by simp;omega
    have hq:((k:Int) - 1) / 64=((k / 64:Nat):Int):=by omega
    have hc:=h (k / 64) (by omega)
    have hq4:((k / 64:Nat):Int)<4:=by omega
    by_cases hz:word M (k / 64)=0
    ·have hW:=Lib.hid (word_zero (M:=M) hz)
     have hz':(((word M (k / 64):Nat):Int)==0)=true:=by simp[hz]
     have hm2:=Lib.hid hm
     clear hz hm
     go_wp2
     go_round
     case rel =>
      refine ⟨k+64,by omega,by omega,by go_num,fun j h1 h2=>?_⟩
      by_cases e:j<k
      ·exact hn.out j h1 e
      ·have:=hm2.out
       exact hW.out j (by omega) (by omega)
     case measure=>simp[intOf];omega
    ·have hz':(((word M (k / 64):Nat):Int)==0)=false:=by simpa using hz
     have hm2:=Lib.hid hm
     clear hz hm
     go_wp2_with (go_at_call 147;refine (shas_c _ _ _ _ _ h (by omega) (by omega)).mono ?_;rintro e w1 ⟨rfl,rfl⟩)
     ·have hb:M.testBit ((k:Int).toNat - 1)=true:=by assumption
      rw[Int.toNat_natCast] at hb
      go_ret
      exact ⟨ret_int (by rw[aboveM_hit hn.out hxk hle hb]),rfl⟩
     ·have hb:M.testBit ((k:Int).toNat - 1)=false:=by assumption
      rw[Int.toNat_natCast] at hb
      go_round
      case rel =>
       refine ⟨k+1,by omega,by omega,by go_num,fun j h1 h2=>?_⟩
       by_cases e:j=k
       ·rw[e];exact hb
       ·exact hn.out j h1 (by omega)
      case measure=>simp[intOf];omega
   ·have hm':((k:Int) % 64==1)=false:=by simp;omega
    have hm2:=Lib.hid hm
    clear hm
    go_wp2_with (go_at_call 147;refine (shas_c _ _ _ _ _ h (by omega) (by omega)).mono ?_;rintro e w1 ⟨rfl,rfl⟩)
    ·have hb:M.testBit ((k:Int).toNat - 1)=true:=by assumption
     rw[Int.toNat_natCast] at hb
     go_ret
     exact ⟨ret_int (by rw[aboveM_hit hn.out hxk hle hb]),rfl⟩
    ·have hb:M.testBit ((k:Int).toNat - 1)=false:=by assumption
     rw[Int.toNat_natCast] at hb
     go_round
     case rel =>
      refine ⟨k+1,by omega,by omega,by go_num,fun j h1 h2=>?_⟩
      by_cases e:j=k
      ·rw[e];exact hb
      ·exact hn.out j h1 (by omega)
     case measure=>simp[intOf];omega
  ·go_wp2
   go_ret
   exact ⟨ret_int (by rw[aboveM_none (fun j h1 h2=>hn.out j h1 (by omega))];rfl),rfl⟩
def sumAt (l f:List Int):Int:=(l.map fun c=>f[c.toNat]?.getD 0).foldl (·+·) 0
def sumTo (l f:List Int) (k:Nat):Int:=sumAt (l.take k) f
theorem sumTo_succ {l f:List Int} {k:Nat} (h:k<l.length):sumTo l f (k+1)=sumTo l f k+f[(l[k]?.getD 0).toNat]?.getD 0:=by
 unfold sumTo sumAt
 rw[take_snoc l 0 k h]
 simp
theorem sumTo_bd {l f:List Int} {B:Int} (h0:∀c:Nat,0≤f[c]?.getD 0∧f[c]?.getD 0≤B) (k:Nat) (hk:k≤l.length):0≤sumTo l f k∧sumTo l f k≤k*B:=by
 induction k with
 | zero=>simp[sumTo,sumAt]
 | succ k ih =>
  have:=ih (by omega)
  have h1:=h0 (l[k]?.getD 0).toNat
  rw[sumTo_succ (by omega)]
  have e:((k+1:Nat):Int)*B=k*B+B:=by rw[Int.natCast_add];simp[Int.add_mul]
  omega
theorem sum_c (a a':Option Addr) (n n' c c':Nat) (l f:List Int) (w:World) (h:IC w a n l) (h':IC w a' n' f) (hn:n≤1000)
  (hl:∀k,k<n→0≤l[k]?.getD 0∧l[k]?.getD 0<(n':Int)) (hf:∀c:Nat,0≤f[c]?.getD 0∧f[c]?.getD 0≤1000000000) :
  Calls Tryz.prog 145 #[.slice a n c,.slice a' n' c'] w fun e w'=>e = .returned (.int .i64 (sumAt l f))∧w=w':=by
 have HF:=Lib.hid hf
 have HL:=Lib.hid hl
 clear hf hl
 have hm':=h'.small
 go_enter Tryz.func145,Tryz.ntmps145
 go_wp2
 go_loop [5,7,10] (fun s _ i=>∃k:Nat,k≤n∧i = .int .i64 k∧s = .int .i64 (sumTo l f k)) (fun _ _ i=>n - (intOf i).toNat)
 case atStart=>exact ⟨0,by omega,rfl,rfl⟩
 case round =>
  obtain ⟨k,hk,rfl,rfl⟩:=hrel
  have hb:=sumTo_bd HF.out k (by rw[h.len];exact hk)
  have hb2:sumTo l f k≤1000000000000:=by
   have:(k:Int)*1000000000≤1000*1000000000:=Int.mul_le_mul_of_nonneg_right (by omega) (by omega)
   omega
  have hb1:=hb.1
  clear hb
  by_cases hlt:k<n
  ·obtain ⟨b,off,rfl,hbb,hc⟩:=h.2 k hlt
   have hr:=HL.out k hlt
   obtain ⟨x,hx⟩:∃x:Nat,l[k]?.getD 0=(x:Int):=⟨(l[k]?.getD 0).toNat,by omega⟩
   rw[hx] at hr hc
   have hS:=Lib.hid (sumTo_succ (f:=f) (show k<l.length by rw[h.len];exact hlt))
   rw[hx] at hS
   clear hx
   obtain ⟨b',off',rfl,hbb',hc'⟩:=h'.2 x (by omega)
   have hfx:=HF.out x
   have hr2:=hr.2
   have hr3:x<n':=by omega
   have hfx1:=hfx.1
   have hfx2:=hfx.2
   clear hr hfx
   go_wp2
   go_round
   case rel=>exact ⟨k+1,by omega,by go_num,by rw[hS.out];simp⟩
   case measure=>simp[intOf];omega
  ·go_wp2
   go_ret
   have e:k=n:=by omega
   subst e
   refine ⟨ret_int ?_,rfl⟩
   unfold sumTo
   rw[List.take_of_length_le (by rw[h.len];omega)]
end
section
open Go Go.RowKit
attribute [local go_sem] over_cell
def idxP (p:Nat→Bool) (n:Nat):Int:=match (List.range n).find? p with|some i=>(i:Int)|none => -1
def anyP (p:Nat→Bool) (n:Nat):Bool:=(List.range n).any p
theorem idxP_hit {p:Nat→Bool} {n k:Nat} (h:∀j,j<k→p j=false) (hk:k<n) (hp:p k=true):idxP p n=k:=by
 have:(List.range n).find? p=some k:=by
  rw[List.find?_range_eq_some]
  exact ⟨hp,by simpa using hk,fun j hj=>by simp[h j hj]⟩
 simp[idxP,this]
theorem idxP_none {p:Nat→Bool} {n:Nat} (h:∀j,j<n→p j=false):idxP p n = -1:=by
 have:(List.range n).find? p=none:=by
  rw[List.find?_range_eq_none]
  exact fun j hj=>by simp[h j hj]
 simp[idxP,this]
theorem idxP_ge {p:Nat→Bool} {n:Nat}:decide (0≤idxP p n)=anyP p n:=by
 unfold idxP anyP
 cases h:(List.range n).find? p with
 | none =>
  have:(List.range n).any p=false:=by
   rw[List.any_eq_false]
   rw[List.find?_eq_none] at h
   exact h
  simp[this]
 | some i =>
  have:(List.range n).any p=true:=List.any_eq_true.2 ⟨i,List.mem_of_find?_eq_some h,List.find?_some h⟩
  simp[this]
theorem upB_snoc {f:Nat→Bool} {k:Nat} (h:∀j,j<k→f j=false) (hk:f k=false):∀j,j<k+1→f j=false:=by
 intro j hj
 by_cases e:j=k
 ·rw[e];exact hk
 ·exact h j (by omega)
theorem index_c (a:Option Addr) (n c:Nat) (xs:List Int) (x:Int) (w:World) (h:IC w a n xs) :
  Calls Tryz.prog 197 #[.slice a n c,.int .i64 x] w fun e w'=>e = .returned (.int .i64 (idxP (fun k=>x==xs[k]?.getD 0) n))∧w=w':=by
 have hm:=h.small
 go_enter Tryz.func197,Tryz.ntmps197
 go_wp2
 go_loop [5,8] (fun _ i=>∃k:Nat,k≤n∧i = .int .i64 k∧Hid (∀j,j<k→(x==xs[j]?.getD 0)=false)) (fun _ i=>n - (intOf i).toNat)
 case atStart=>exact ⟨0,by omega,rfl,fun j hj=>absurd hj (by omega)⟩
 case round =>
  obtain ⟨k,hk,rfl,hn⟩:=hrel
  by_cases hlt:k<n
  ·obtain ⟨b,off,rfl,hb,hc⟩:=h.2 k hlt
   go_wp2
   ·have he:(x==xs[k]?.getD 0)=true:=by assumption
    go_ret
    exact ⟨ret_int (idxP_hit hn.out hlt he).symm,rfl⟩
   ·have he:(x==xs[k]?.getD 0)=false:=by assumption
    go_round
    case rel=>exact ⟨k+1,by omega,by go_num,upB_snoc (f:=fun j=>x==xs[j]?.getD 0) hn.out he⟩
    case measure=>simp[intOf];omega
  ·have e:k=n:=by omega
   subst e
   go_wp2
   go_ret
   exact ⟨ret_int (idxP_none hn.out).symm,rfl⟩
theorem anyP_has (xs:List Int) (x:Int):anyP (fun k=>x==xs[k]?.getD 0) xs.length=hasB xs x:=by
 rw[Bool.eq_iff_iff]
 simp only[anyP,hasB,List.any_eq_true,List.mem_range,beq_iff_eq,List.contains_iff_mem]
 constructor
 ·rintro ⟨k,hk,e⟩
  rw[e,List.getElem?_eq_getElem hk]
  simp
 ·intro hm
  obtain ⟨k,hk,e⟩:=List.getElem_of_mem hm
  exact ⟨k,hk,by rw[List.getElem?_eq_getElem hk];simp[e]⟩
theorem contains_c (a:Option Addr) (n c:Nat) (xs:List Int) (x:Int) (w:World) (h:IC w a n xs) :
  Calls Tryz.prog 134 #[.slice a n c,.int .i64 x] w fun e w'=>e = .returned (.bool (hasB xs x))∧w=w':=by
 have hE:Hid (decide (0≤idxP (fun k=>x==xs[k]?.getD 0) n)=hasB xs x):=by
  unfold Hid;rw[idxP_ge,← h.len,anyP_has]
 have hI:=index_c a n c xs x w h
 generalize idxP (fun k=>x==xs[k]?.getD 0) n=r at hE hI
 have HI:=Lib.hid hI
 clear hI
 go_enter Tryz.func134,Tryz.ntmps134
 go_wp2_with (go_at_call 197;refine HI.out.mono ?_;rintro e w1 ⟨rfl,rfl⟩)
 go_ret
 exact ⟨ret_bool hE.out,rfl⟩
theorem equal_c (a a':Option Addr) (n n' c c':Nat) (xs ys:List Int) (w:World) (h:IC w a n xs) (h':IC w a' n' ys) :
  Calls Tryz.prog 88 #[.slice a n c,.slice a' n' c'] w fun e w'=>e = .returned (.bool (sameB xs ys))∧Below w.heap.size w w':=by
 have hm:=h.small
 by_cases hl:n=n'
 ·subst hl
  go_enter Tryz.func88,Tryz.ntmps88
  go_wp2
  go_loopw [5,13] (fun _ i wr=>∃k:Nat,k≤n∧i = .int .i64 k∧Hid (xs.take k=ys.take k)∧Below w.heap.size w wr) (fun _ i _=>n - (intOf i).toNat)
  case atStart=>exact ⟨0,by omega,rfl,by simp[Hid],Below.refl _ _⟩
  case round =>
   obtain ⟨k,hk,rfl,hn,hbr⟩:=hrel
   by_cases hlt:k<n
   ·obtain ⟨b,off,rfl,hb,hc⟩:=(h.mono hbr).2 k hlt
    obtain ⟨b',off',rfl,hb',hc'⟩:=(h'.mono hbr).2 k hlt
    have hli:(k:Int)<(n:Int):=by omega
    have hl0:(0:Int)≤(k:Int):=by omega
    go_wp2
    refine wp_region_S (fun w'=>∃u,w'=over (wr) u) [] [(0,0),(0,1),(0,2),(0,3),(0,4),(0,5),(0,6),(0,7),(0,8)] (by kernel_rfl) (by kernel_rfl) (by exact ⟨_,below_over (by repeat (first|assumption|exact Below.refl _ _|refine keep_drew ?_|refine keep_alloc ?_ _|refine keep_trans ?_ (by assumption)))⟩) ?_
    dsimp only[pickOps,nthOp]
    repeat (first|(refine wpS_skip rfl (fun K hK=>?_);go_big_quiet_op;refine hK _ ?_;clear hK K)|(refine wpS_quiet rfl rfl (fun K hK=>?_);go_big_quiet_op;refine hK _ ?_;clear hK K))
    refine wpS_end ?_
    by_cases he:xs[k]?.getD 0=ys[k]?.getD 0
    ·have he':(xs[k]?.getD 0 != ys[k]?.getD 0)=false:=by simpa using he
     have he2:=Lib.hid he;clear he
     go_wp2
     go_roundw
     case rel =>
      refine ⟨k+1,by omega,by go_num,?_,hbr.drew⟩
      unfold Hid
      rw[take_snoc xs 0 k (by rw[h.len];exact hlt),take_snoc ys 0 k (by rw[h'.len];exact hlt),hn.out,he2.out]
     case measure=>simp[intOf];omega
    ·have he':(xs[k]?.getD 0 != ys[k]?.getD 0)=true:=by simpa using he
     go_wp2
     go_ret
     exact ⟨ret_bool (sameB_ne he).symm,hbr.drew⟩
   ·go_wp2
    go_ret
    refine ⟨ret_bool ?_,hbr⟩
    have e1:xs.take k=xs:=List.take_of_length_le (by rw[h.len];omega)
    have e2:ys.take k=ys:=List.take_of_length_le (by rw[h'.len];omega)
    have:=hn.out
    rw[e1,e2] at this
    simp[sameB,this]
 ·have hl':((n:Int) != (n':Int))=true:=by simp;omega
  go_enter Tryz.func88,Tryz.ntmps88
  go_wp2
  go_ret
  refine ⟨ret_bool ?_,Below.refl _ _⟩
  symm
  simp only[sameB,decide_eq_false_iff_not]
  rintro rfl
  exact hl (h.len.symm.trans h'.len)
theorem indexFuncR_c (a:Option Addr) (n c:Nat) (ls:List (List Int)) (fk:Nat) (caps:Array Value) (p:Nat→Bool) (w:World) (h:RC w a n ls)
  (hcf:∀args w,Sem.run Tryz.prog (callFunc fk args) w = .ok (.enter fk args) w)
  (hcl:∀k,k<n→∀w' a1 n1 c1,Below w.heap.size w w'→IC w' a1 n1 (ls[k]?.getD [])→n1≤c1→Calls Tryz.prog fk (#[.slice a1 n1 c1]++caps) w' (fun e w''=>e = .returned (.bool (p k))∧Below w'.heap.size w' w'')) :
  Calls Tryz.prog 209 #[.slice a n c,.func (.func fk) #[] caps] w fun e w'=>e = .returned (.int .i64 (idxP p n))∧Below w.heap.size w w':=by
 have hm:=h.small
 have HC:=Lib.hid hcl
 clear hcl
 go_enter Tryz.func209,Tryz.ntmps209
 go_wp2
 go_loopw [5,8] (fun _ i wr=>∃k:Nat,k≤n∧i = .int .i64 k∧Hid (∀j,j<k→p j=false)∧Below w.heap.size w wr) (fun _ i _=>n - (intOf i).toNat)
 case atStart=>exact ⟨0,by omega,rfl,fun j hj=>absurd hj (by omega),Below.refl _ _⟩
 case round =>
  obtain ⟨k,hk,rfl,hn,hbr⟩:=hrel
  by_cases hlt:k<n
  ·obtain ⟨b,off,a1,n1,c1,rfl,hb,hc,hi,hic⟩:=(h.mono hbr).2 k hlt
   have hK:=Lib.hid (HC.out k hlt wr a1 n1 c1 hbr hi hic)
   go_wp2_with fail
   refine hK.out.mono ?_
   rintro e w1 ⟨rfl,hb1⟩
   go_wp2
   ·have he:p k=true:=by assumption
    go_ret
    exact ⟨ret_int (idxP_hit hn.out hlt he).symm,hbr.trans (hb1.mono hbr.size)⟩
   ·have he:p k=false:=by assumption
    go_roundw
    case rel=>exact ⟨k+1,by omega,by go_num,upB_snoc hn.out he,hbr.trans (hb1.mono hbr.size)⟩
    case measure=>simp[intOf];omega
  ·have e:k=n:=by omega
   subst e
   go_wp2
   go_ret
   exact ⟨ret_int (idxP_none hn.out).symm,hbr⟩
theorem containsFuncR_c (a:Option Addr) (n c:Nat) (ls:List (List Int)) (fk:Nat) (caps:Array Value) (p:Nat→Bool) (w:World) (h:RC w a n ls)
  (hcf:∀args w,Sem.run Tryz.prog (callFunc fk args) w = .ok (.enter fk args) w)
  (hcl:∀k,k<n→∀w' a1 n1 c1,Below w.heap.size w w'→IC w' a1 n1 (ls[k]?.getD [])→n1≤c1→Calls Tryz.prog fk (#[.slice a1 n1 c1]++caps) w' (fun e w''=>e = .returned (.bool (p k))∧Below w'.heap.size w' w'')) :
  Calls Tryz.prog 137 #[.slice a n c,.func (.func fk) #[] caps] w fun e w'=>e = .returned (.bool (anyP p n))∧Below w.heap.size w w':=by
 have hE:Hid (decide (0≤idxP p n)=anyP p n):=idxP_ge
 have HI:=Lib.hid (indexFuncR_c a n c ls fk caps p w h hcf hcl)
 generalize idxP p n=r at hE HI
 clear hcl hcf
 go_enter Tryz.func137,Tryz.ntmps137
 go_wp2_with (go_at_call 209;refine HI.out.mono ?_;rintro e w1 ⟨rfl,hb1⟩)
 go_ret
 exact ⟨ret_bool hE.out,hb1⟩
theorem indexFuncI_c (a:Option Addr) (n c:Nat) (xs:List Int) (fk:Nat) (caps:Array Value) (p:Nat→Bool) (w:World) (h:IC w a n xs)
  (hcf:∀args w,Sem.run Tryz.prog (callFunc fk args) w = .ok (.enter fk args) w)
  (hcl:∀k,k<n→∀w',Below w.heap.size w w'→Calls Tryz.prog fk (#[.int .i64 (xs[k]?.getD 0)]++caps) w' (fun e w''=>e = .returned (.bool (p k))∧Below w'.heap.size w' w'')) :
  Calls Tryz.prog 158 #[.slice a n c,.func (.func fk) #[] caps] w fun e w'=>e = .returned (.int .i64 (idxP p n))∧Below w.heap.size w w':=by
 have hm:=h.small
 have HC:=Lib.hid hcl
 clear hcl
 go_enter Tryz.func158,Tryz.ntmps158
 go_wp2
 go_loopw [5,8] (fun _ i wr=>∃k:Nat,k≤n∧i = .int .i64 k∧Hid (∀j,j<k→p j=false)∧Below w.heap.size w wr) (fun _ i _=>n - (intOf i).toNat)
 case atStart=>exact ⟨0,by omega,rfl,fun j hj=>absurd hj (by omega),Below.refl _ _⟩
 case round =>
  obtain ⟨k,hk,rfl,hn,hbr⟩:=hrel
  by_cases hlt:k<n
  ·obtain ⟨b,off,rfl,hb,hc⟩:=(h.mono hbr).2 k hlt
   have hK:=Lib.hid (HC.out k hlt wr hbr)
   go_wp2_with fail
   refine hK.out.mono ?_
   rintro e w1 ⟨rfl,hb1⟩
   go_wp2
   ·have he:p k=true:=by assumption
    go_ret
    exact ⟨ret_int (idxP_hit hn.out hlt he).symm,hbr.trans (hb1.mono hbr.size)⟩
   ·have he:p k=false:=by assumption
    go_roundw
    case rel=>exact ⟨k+1,by omega,by go_num,upB_snoc hn.out he,hbr.trans (hb1.mono hbr.size)⟩
    case measure=>simp[intOf];omega
  ·have e:k=n:=by omega
   subst e
   go_wp2
   go_ret
   exact ⟨ret_int (idxP_none hn.out).symm,hbr⟩
theorem containsFuncI_c (a:Option Addr) (n c:Nat) (xs:List Int) (fk:Nat) (caps:Array Value) (p:Nat→Bool) (w:World) (h:IC w a n xs)
  (hcf:∀args w,Sem.run Tryz.prog (callFunc fk args) w = .ok (.enter fk args) w)
  (hcl:∀k,k<n→∀w',Below w.heap.size w w'→Calls Tryz.prog fk (#[.int .i64 (xs[k]?.getD 0)]++caps) w' (fun e w''=>e = .returned (.bool (p k))∧Below w'.heap.size w' w'')) :
  Calls Tryz.prog 86 #[.slice a n c,.func (.func fk) #[] caps] w fun e w'=>e = .returned (.bool (anyP p n))∧Below w.heap.size w w':=by
 have hE:Hid (decide (0≤idxP p n)=anyP p n):=idxP_ge
 have HI:=Lib.hid (indexFuncI_c a n c xs fk caps p w h hcf hcl)
 generalize idxP p n=r at hE HI
 clear hcl hcf
 go_enter Tryz.func86,Tryz.ntmps86
 go_wp2_with (go_at_call 158;refine HI.out.mono ?_;rintro e w1 ⟨rfl,hb1⟩)
 go_ret
 exact ⟨ret_bool hE.out,hb1⟩
theorem when_c (h:Bool) (e:Int) (w:World):Calls Tryz.prog 66 #[.bool h,.int .i64 e] w fun r w'=>r = .returned (.int .i64 (whenV h e))∧w=w':=by
 cases h
 ·go_enter Tryz.func66,Tryz.ntmps66
  go_wp2
  go_ret
  exact ⟨rfl,rfl⟩
 ·go_enter Tryz.func66,Tryz.ntmps66
  go_wp2
  go_ret
  exact ⟨rfl,rfl⟩
theorem lwhen_c (h:Bool) (e:Int) (w:World):Calls Tryz.prog 165 #[.bool h,.int .i64 e] w fun r w'=>r = .returned (.int .i64 (whenV h e))∧w=w':=by
 cases h
 ·go_enter Tryz.func165,Tryz.ntmps165
  go_wp2
  go_ret
  exact ⟨rfl,rfl⟩
 ·go_enter Tryz.func165,Tryz.ntmps165
  go_wp2
  go_ret
  exact ⟨rfl,rfl⟩
theorem firstL_hit {xs:List Int} {k:Nat} (h:∀j,j<k→xs[j]?.getD 0=0) (hk:k<xs.length) (hx:xs[k]?.getD 0≠0):firstL xs=xs[k]?.getD 0:=by
 induction xs generalizing k with
 | nil=>simp at hk
 | cons y xs ih =>
  cases k with
  | zero=>simp at hx;simp[firstL,hx]
  | succ k =>
   have h0:=h 0 (by omega)
   simp at h0
   simp only[firstL,h0]
   simp only[List.getElem?_cons_succ] at hx ⊢
   exact ih (fun j hj=>by have:=h (j+1) (by omega);simpa using this) (by simpa using hk) hx
theorem firstL_none {xs:List Int} (h:∀j,j<xs.length→xs[j]?.getD 0=0):firstL xs=0:=by
 induction xs with
 | nil=>rfl
 | cons y xs ih =>
  have h0:=h 0 (by simp)
  simp at h0
  simp only[firstL,h0]
  exact ih (fun j hj=>by have:=h (j+1) (by simp;omega);simpa using this)
theorem upI_snoc {f:Nat→Int} {k:Nat} (h:∀j,j<k→f j=0) (hk:f k=0):∀j,j<k+1→f j=0:=upto_snoc h hk
theorem first_c (a:Option Addr) (n c:Nat) (xs:List Int) (w:World) (h:IC w a n xs) :
  Calls Tryz.prog 65 #[.slice a n c] w fun e w'=>e = .returned (.int .i64 (firstL xs))∧w=w':=by
 have hm:=h.small
 go_enter Tryz.func65,Tryz.ntmps65
 go_wp2
 go_loop [4,7] (fun _ i=>∃k:Nat,k≤n∧i = .int .i64 k∧Hid (∀j,j<k→xs[j]?.getD 0=0)) (fun _ i=>n - (intOf i).toNat)
 case atStart=>exact ⟨0,by omega,rfl,fun j hj=>absurd hj (by omega)⟩
 case round =>
  obtain ⟨k,hk,rfl,hn⟩:=hrel
  by_cases hlt:k<n
  ·obtain ⟨b,off,rfl,hb,hc⟩:=h.2 k hlt
   go_wp2
   ·have he:(xs[k]?.getD 0 != 0)=true:=by assumption
    go_ret
    exact ⟨ret_int (firstL_hit hn.out (by rw[h.len];exact hlt) (by simpa using he)).symm,rfl⟩
   ·have he:(xs[k]?.getD 0 != 0)=false:=by assumption
    go_round
    case rel=>exact ⟨k+1,by omega,by go_num,upI_snoc (f:=fun j=>xs[j]?.getD 0) hn.out (by simpa using he)⟩
    case measure=>simp[intOf];omega
  ·have e:k=n:=by omega
   subst e
   go_wp2
   go_ret
   exact ⟨ret_int (firstL_none (by rw[h.len];exact hn.out)).symm,rfl⟩
theorem lfirst_c (a:Option Addr) (n c:Nat) (xs:List Int) (w:World) (h:IC w a n xs) :
  Calls Tryz.prog 163 #[.slice a n c] w fun e w'=>e = .returned (.int .i64 (firstL xs))∧w=w':=by
 have hm:=h.small
 go_enter Tryz.func163,Tryz.ntmps163
 go_wp2
 go_loop [4,7] (fun _ i=>∃k:Nat,k≤n∧i = .int .i64 k∧Hid (∀j,j<k→xs[j]?.getD 0=0)) (fun _ i=>n - (intOf i).toNat)
 case atStart=>exact ⟨0,by omega,rfl,fun j hj=>absurd hj (by omega)⟩
 case round =>
  obtain ⟨k,hk,rfl,hn⟩:=hrel
  by_cases hlt:k<n
  ·obtain ⟨b,off,rfl,hb,hc⟩:=h.2 k hlt
   go_wp2
   ·have he:(xs[k]?.getD 0 != 0)=true:=by assumption
    go_ret
    exact ⟨ret_int (firstL_hit hn.out (by rw[h.len];exact hlt) (by simpa using he)).symm,rfl⟩
   ·have he:(xs[k]?.getD 0 != 0)=false:=by assumption
    go_round
    case rel=>exact ⟨k+1,by omega,by go_num,upI_snoc (f:=fun j=>xs[j]?.getD 0) hn.out (by simpa using he)⟩
    case measure=>simp[intOf];omega
  ·have e:k=n:=by omega
   subst e
   go_wp2
   go_ret
   exact ⟨ret_int (firstL_none (by rw[h.len];exact hn.out)).symm,rfl⟩
theorem IC.new3 (w:World) (x y z:Int) (T:TypeId):IC (w.alloc (.cells #[.int .i64 x,.int .i64 y,.int .i64 z] T)) (some ⟨w.heap.size,0,none⟩) 3 [x,y,z] :=
 ⟨⟨rfl,by omega⟩,fun k hk=>⟨w.heap.size,0,rfl,by simp,by
  rw[box_cells]
  match k,hk with
  | 0,_=>rfl
  | 1,_=>rfl
  | 2,_=>rfl⟩⟩
theorem IC.new2 (w:World) (x y:Int) (T:TypeId):IC (w.alloc (.cells #[.int .i64 x,.int .i64 y] T)) (some ⟨w.heap.size,0,none⟩) 2 [x,y] :=
 ⟨⟨rfl,by omega⟩,fun k hk=>⟨w.heap.size,0,rfl,by simp,by
  rw[box_cells]
  match k,hk with
  | 0,_=>rfl
  | 1,_=>rfl⟩⟩
theorem IC.new1 (w:World) (x:Int) (T:TypeId):IC (w.alloc (.cells #[.int .i64 x] T)) (some ⟨w.heap.size,0,none⟩) 1 [x] :=
 ⟨⟨rfl,by omega⟩,fun k hk=>⟨w.heap.size,0,rfl,by simp,by
  rw[box_cells]
  match k,hk with
  | 0,_=>rfl⟩⟩
end
section
open Go Go.RowKit
attribute [local go_sem] over_cell
def outB (lo hi x:Int):Bool:=decide (x<lo)||decide (hi<x)
theorem from1_c (x lo hi:Int) (b1 b2:Nat) (w:World) (h1:w.cell? ⟨b1,0,none⟩=some (.int .i64 lo)) (h2:w.cell? ⟨b2,0,none⟩=some (.int .i64 hi)) :
  Calls Tryz.prog 221 #[.int .i64 x,.pointer (some ⟨b1,0,none⟩),.pointer (some ⟨b2,0,none⟩)] w fun e w'=>e = .returned (.bool (outB lo hi x))∧w=w':=by
 by_cases hx:x<lo
 ·have hd:decide (x<lo)=true:=by simpa using hx
  have hE:Hid (outB lo hi x=true):=by simp[Hid,outB,hx]
  go_enter Tryz.func221,Tryz.ntmps221
  go_wp2
  go_ret
  exact ⟨ret_bool hE.out.symm,rfl⟩
 ·have hd:decide (x<lo)=false:=by simpa using hx
  have hE:Hid (outB lo hi x=decide (hi<x)):=by simp[Hid,outB,hx]
  go_enter Tryz.func221,Tryz.ntmps221
  go_wp2
  go_ret
  exact ⟨ret_bool hE.out.symm,rfl⟩
theorem from1_fn:∀(args:Array Value) (w:World),Sem.run Tryz.prog (callFunc 221 args) w = .ok (.enter 221 args) w:=by
 intro args w;kernel_rfl
theorem from_c (a:Option Addr) (n c:Nat) (xs:List Int) (lo hi:Int) (w:World) (h:IC w a n xs) :
  Calls Tryz.prog 164 #[.int .i64 lo,.int .i64 hi,.slice a n c] w fun e w'=>e = .returned (.int .i64 (whenV (anyP (fun k=>outB lo hi (xs[k]?.getD 0)) n) 3))∧Below w.heap.size w w':=by
 have hB2:Below w.heap.size w ((w.alloc (.cells #[.int .i64 lo] 3)).alloc (.cells #[.int .i64 hi] 3)):=keep_alloc (keep_alloc (Below.refl _ _) _) _
 have hc1:((w.alloc (.cells #[.int .i64 lo] 3)).alloc (.cells #[.int .i64 hi] 3)).cell? ⟨w.heap.size,0,none⟩=some (.int .i64 lo):=by
  rw[((bcell (W:=w.alloc (.cells #[.int .i64 lo] 3)) (keep_alloc (Below.refl _ _) _)).1 _ _ (by simp)),box_cells];rfl
 have hc2:((w.alloc (.cells #[.int .i64 lo] 3)).alloc (.cells #[.int .i64 hi] 3)).cell? ⟨w.heap.size+1,0,none⟩=some (.int .i64 hi):=by
  have:=box_cells (w.alloc (.cells #[.int .i64 lo] 3)) #[.int .i64 hi] 3 0
  rw[World.size_alloc] at this
  exact this.trans rfl
 have hs2:((w.alloc (.cells #[.int .i64 lo] 3)).alloc (.cells #[.int .i64 hi] 3)).heap.size=w.heap.size+2:=by simp
 have HI:=Lib.hid (containsFuncI_c a n c xs 221 #[.pointer (some ⟨w.heap.size,0,none⟩),.pointer (some ⟨w.heap.size+1,0,none⟩)] (fun k=>outB lo hi (xs[k]?.getD 0)) _ (h.mono hB2) from1_fn
  (fun k _ w' hb=>(from1_c _ lo hi _ _ w' (((bcell hb).1 _ _ (by omega)).trans hc1) (((bcell hb).1 _ _ (by omega)).trans hc2)).mono (fun e w'' ⟨he,hw⟩=>⟨he,hw▸Below.refl _ _⟩)))
 have HB:=Lib.hid hB2
 clear hc1 hc2 hs2 hB2
 generalize anyP (fun k=>outB lo hi (xs[k]?.getD 0)) n=r at HI ⊢
 go_enter Tryz.func164,Tryz.ntmps164
 go_wp2_with (first|(go_at_call 86;refine HI.out.mono ?_;rintro e w1 ⟨rfl,hb1⟩)|(go_at_call 165;refine (lwhen_c _ _ _).mono ?_;rintro e w2 ⟨rfl,rfl⟩))
 go_ret
 exact ⟨rfl,keep_trans HB.out hb1⟩
theorem checkLine1_c (a a':Option Addr) (n n' c c':Nat) (xs ys:List Int) (B:Nat) (w:World) (h:IC w a n xs) (h':IC w a' n' ys) (hc:w.cell? ⟨B,0,none⟩=some (.slice a' n' c')) :
  Calls Tryz.prog 222 #[.slice a n c,.pointer (some ⟨B,0,none⟩)] w fun e w'=>e = .returned (.bool (sameB xs ys))∧Below w.heap.size w w':=by
 have HI:=Lib.hid (equal_c a a' n n' c c' xs ys w h h')
 go_enter Tryz.func222,Tryz.ntmps222
 go_wp2_with (go_at_call 88;refine HI.out.mono ?_;rintro e w1 ⟨rfl,hb1⟩)
 go_ret
 exact ⟨rfl,hb1⟩
theorem checkLine1_fn:∀(args:Array Value) (w:World),Sem.run Tryz.prog (callFunc 222 args) w = .ok (.enter 222 args) w:=by
 intro args w;kernel_rfl
theorem anyP_line (ls:List (List Int)) (l:List Int):anyP (fun k=>sameB (ls[k]?.getD []) l) ls.length=hasLineB ls l:=by
 rw[Bool.eq_iff_iff]
 simp only[anyP,hasLineB,List.any_eq_true,List.mem_range,sameB,decide_eq_true_eq,List.contains_iff_mem]
 constructor
 ·rintro ⟨k,hk,e⟩
  rw[← e,List.getElem?_eq_getElem hk]
  simp
 ·intro hm
  obtain ⟨k,hk,e⟩:=List.getElem_of_mem hm
  exact ⟨k,hk,by rw[List.getElem?_eq_getElem hk];simp[e]⟩
theorem lineBad_first (cells:Int) (l:List Int) (k:Nat):lineBad cells l k=firstL [whenV (decide (l[k]?.getD 0<0)||decide (cells≤l[k]?.getD 0)) 10,whenV (decide (0<k)&&decide (l[k]?.getD 0≤l[k - 1]?.getD 0)) 11]:=by
 unfold lineBad
 by_cases h1:l[k]?.getD 0<0
 ·rw[if_pos (.inl h1)];simp[h1,whenV,firstL]
 by_cases h2:cells≤l[k]?.getD 0
 ·rw[if_pos (.inr h2)];simp[h2,whenV,firstL]
 rw[if_neg (by omega)]
 by_cases h3:0<k∧l[k]?.getD 0≤l[k - 1]?.getD 0
 ·rw[if_pos h3];simp[h1,h2,h3.1,h3.2,whenV,firstL]
 ·rw[if_neg h3]
  have:(decide (0<k)&&decide (l[k]?.getD 0≤l[k - 1]?.getD 0))=false:=by
   by_cases a:0<k
   ·have b:¬l[k]?.getD 0≤l[k - 1]?.getD 0:=fun b=>h3 ⟨a,b⟩
    simp[b]
   ·simp[a]
  rw[this]
  simp[h1,h2,whenV,firstL]
theorem checkLine_c (a:Option Addr) (n c:Nat) (ls:List (List Int)) (cells:Int) (i:Nat) (w:World) (h:RC w a n ls) (hcap:n≤c) (hi:i<n) :
  Calls Tryz.prog 166 #[.agg #[.int .i64 cells,.slice a n c],.int .i64 i] w fun e w'=>e = .returned (.int .i64 (lineErr cells ls i))∧Below w.heap.size w w':=by
 have hm:=h.small
 obtain ⟨b,off,a1,n1,c1,rfl,hb,hc,hI,hic⟩:=(h.mono (keep_alloc (Below.refl _ _) (.cells #[.int .i64 cells,.slice a n c] 24))).2 i hi
 have hm1:=hI.small
 have hii:(i:Int)<(n:Int):=by omega
 have hi0:(0:Int)≤(i:Int):=by omega
 have hicc:i≤c:=by omega
 by_cases hz:n1=0
 ·subst hz
  have hv:Hid (lineErr cells ls i=12):=by unfold Hid lineErr;rw[if_pos hI.len]
  go_enter Tryz.func166,Tryz.ntmps166
  go_wp2
  go_ret
  exact ⟨ret_int hv.out.symm,keep_alloc (keep_alloc (Below.refl _ _) _) _⟩
 have hz':((n1:Int)==0)=false:=by simpa using hz
 go_enter Tryz.func166,Tryz.ntmps166
 go_wp2
 have hB2:Below w.heap.size w ((w.alloc (.cells #[.int .i64 cells,.slice (some ⟨b,off,none⟩) n c] 24)).alloc (.cells #[.slice a1 n1 c1] 25)):=keep_alloc (keep_alloc (Below.refl _ _) _) _
 have x0:((w.alloc (.cells #[.int .i64 cells,.slice (some ⟨b,off,none⟩) n c] 24)).alloc (.cells #[.slice a1 n1 c1] 25)).cell? ⟨w.heap.size,0,none⟩=some (.int .i64 cells):=by
  rw[((bcell (W:=w.alloc (.cells #[.int .i64 cells,.slice (some ⟨b,off,none⟩) n c] 24)) (keep_alloc (Below.refl _ _) _)).1 _ _ (by simp)),box_cells];rfl
 have x1:((w.alloc (.cells #[.int .i64 cells,.slice (some ⟨b,off,none⟩) n c] 24)).alloc (.cells #[.slice a1 n1 c1] 25)).cell? ⟨w.heap.size,1,none⟩=some (.slice (some ⟨b,off,none⟩) n c):=by
  rw[((bcell (W:=w.alloc (.cells #[.int .i64 cells,.slice (some ⟨b,off,none⟩) n c] 24)) (keep_alloc (Below.refl _ _) _)).1 _ _ (by simp)),box_cells];rfl
 have x2:((w.alloc (.cells #[.int .i64 cells,.slice (some ⟨b,off,none⟩) n c] 24)).alloc (.cells #[.slice a1 n1 c1] 25)).cell? ⟨w.heap.size+1,0,none⟩=some (.slice a1 n1 c1):=by
  have:=box_cells (w.alloc (.cells #[.int .i64 cells,.slice (some ⟨b,off,none⟩) n c] 24)) #[.slice a1 n1 c1] 25 0
  rw[World.size_alloc] at this
  exact this.trans rfl
 have hs:w.heap.size+2≤((w.alloc (.cells #[.int .i64 cells,.slice (some ⟨b,off,none⟩) n c] 24)).alloc (.cells #[.slice a1 n1 c1] 25)).heap.size:=by simp
 have hI2:=hI.mono (keep_alloc (Below.refl _ _) (.cells #[.slice a1 n1 c1] 25))
 have hR2:=h.mono hB2
 generalize ((w.alloc (.cells #[.int .i64 cells,.slice (some ⟨b,off,none⟩) n c] 24)).alloc (.cells #[.slice a1 n1 c1] 25))=W0 at hB2 x0 x1 x2 hs hI2 hR2 ⊢
 have X0:=Lib.hid x0
 have X1:=Lib.hid x1
 have X2:=Lib.hid x2
 have hv:Hid (errs (lineBad cells (ls[i]?.getD [])) n1≠0→lineErr cells ls i=errs (lineBad cells (ls[i]?.getD [])) n1):=by
  intro he
  unfold lineErr;rw[if_neg (by rw[hI.len];exact hz),hI.len,if_pos he]
 clear x0 x1 x2 h hc hb hI
 go_loopw [6,7,8,19] (fun _ _ _ i2 wr=>∃k2:Nat,k2≤n1∧i2 = .int .i64 k2∧Hid (∀j,j<k2→lineBad cells (ls[i]?.getD []) j=0)∧Below W0.heap.size W0 wr) (fun _ _ _ i2 _=>n1 - (intOf i2).toNat)
 case atStart=>exact ⟨0,by omega,rfl,fun j hj=>absurd hj (by omega),Below.refl _ _⟩
 case round =>
  obtain ⟨k,hk,rfl,hn,hbr⟩:=hrel
  have hsr:w.heap.size+2≤wr.heap.size:=by have:=hbr.size;omega
  have hsr0:w.heap.size<wr.heap.size:=by omega
  have hsr1:w.heap.size+1<wr.heap.size:=by omega
  have y0:=((bcell hbr).1 _ _ (show w.heap.size<W0.heap.size by omega)).trans X0.out
  have y1:=((bcell hbr).1 _ _ (show w.heap.size<W0.heap.size by omega)).trans X1.out
  have y2:=((bcell hbr).1 _ _ (show w.heap.size+1<W0.heap.size by omega)).trans X2.out
  by_cases hlt:k<n1
  ·obtain ⟨b2,off2,rfl,hb2,hc2⟩:=(hI2.mono hbr).2 k hlt
   have hli:(k:Int)<(n1:Int):=by omega
   have hl0:(0:Int)≤(k:Int):=by omega
   have hF:=Lib.hid (lineBad_first cells (ls[i]?.getD []) k)
   by_cases g3:k=0
   ·have e3:decide (0<(k:Int))=false:=by simp;omega
    have e3':decide (0<k)=false:=by simp;omega
    clear g3
    by_cases g1:(ls[i]?.getD [])[k]?.getD 0<0
    ·have e1:decide ((ls[i]?.getD [])[k]?.getD 0<0)=true:=by simpa using g1
     have hG:Hid (lineBad cells (ls[i]?.getD []) k=firstL [whenV true 10,whenV false 11]):=by
      have:=hF.out;rw[e3',e1] at this;exact this
     clear hF
     go_wp2_with (first|(go_at_call 165;refine (lwhen_c _ _ _).mono ?_;rintro e w2 ⟨rfl,rfl⟩)|(go_at_call 163;refine (lfirst_c _ _ _ _ _ (IC.new2 _ _ _ _)).mono ?_;rintro e w2 ⟨rfl,rfl⟩))
     ·have he:(firstL [whenV true 10,whenV false 11] != 0)=true:=by assumption
      go_ret
      have h1:=errs_found hn.out hlt (by rw[hG.out];simpa using he)
      rw[hG.out] at h1
      exact ⟨ret_int (by rw[hv.out (by rw[h1];simpa using he),h1]),keep_alloc (hB2.trans (hbr.mono (by omega))) _⟩
    ·have e1:decide ((ls[i]?.getD [])[k]?.getD 0<0)=false:=by simpa using g1
     have hG:Hid (lineBad cells (ls[i]?.getD []) k=firstL [whenV (decide (cells≤(ls[i]?.getD [])[k]?.getD 0)) 10,whenV false 11]):=by
      have:=hF.out;rw[e3',e1] at this;exact this
     clear hF
     go_wp2_with (first|(go_at_call 165;refine (lwhen_c _ _ _).mono ?_;rintro e w2 ⟨rfl,rfl⟩)|(go_at_call 163;refine (lfirst_c _ _ _ _ _ (IC.new2 _ _ _ _)).mono ?_;rintro e w2 ⟨rfl,rfl⟩))
     ·have he:(firstL [whenV (decide (cells≤(ls[i]?.getD [])[k]?.getD 0)) 10,whenV false 11] != 0)=true:=by assumption
      go_ret
      have h1:=errs_found hn.out hlt (by rw[hG.out];simpa using he)
      rw[hG.out] at h1
      exact ⟨ret_int (by rw[hv.out (by rw[h1];simpa using he),h1]),keep_alloc (hB2.trans (hbr.mono (by omega))) _⟩
     ·have he:(firstL [whenV (decide (cells≤(ls[i]?.getD [])[k]?.getD 0)) 10,whenV false 11] != 0)=false:=by assumption
      go_roundw
      case rel=>exact ⟨k+1,by omega,by go_num,upto_snoc hn.out (by rw[hG.out];simpa using he),keep_alloc hbr _⟩
      case measure=>simp[intOf];omega
   ·have e3:decide (0<(k:Int))=true:=by simp;omega
    have e3':decide (0<k)=true:=by simp;omega
    have gn:(0:Int)≤(k:Int) - 1:=by omega
    have gl:(k:Int) - 1<(n1:Int):=by omega
    have hcp':wr.cell? ⟨b2,off2+(k - 1),none⟩=some (.int .i64 ((ls[i]?.getD [])[k - 1]?.getD 0)):=by
     obtain ⟨b3,off3,e,_,hc3⟩:=(hI2.mono hbr).2 (k - 1) (by omega)
     simp only[Option.some.injEq,Addr.mk.injEq,and_true] at e
     obtain ⟨rfl,rfl⟩:=e
     exact hc3
    clear g3
    by_cases g1:(ls[i]?.getD [])[k]?.getD 0<0
    ·have e1:decide ((ls[i]?.getD [])[k]?.getD 0<0)=true:=by simpa using g1
     have hG:Hid (lineBad cells (ls[i]?.getD []) k=firstL [whenV true 10,whenV (decide ((ls[i]?.getD [])[k]?.getD 0≤(ls[i]?.getD [])[k - 1]?.getD 0)) 11]):=by
      have:=hF.out;rw[e3',e1] at this;exact this
     clear hF
     go_wp2_with (first|(go_at_call 165;refine (lwhen_c _ _ _).mono ?_;rintro e w2 ⟨rfl,rfl⟩)|(go_at_call 163;refine (lfirst_c _ _ _ _ _ (IC.new2 _ _ _ _)).mono ?_;rintro e w2 ⟨rfl,rfl⟩))
     ·have he:(firstL [whenV true 10,whenV (decide ((ls[i]?.getD [])[k]?.getD 0≤(ls[i]?.getD [])[k - 1]?.getD 0)) 11] != 0)=true:=by assumption
      go_ret
      have h1:=errs_found hn.out hlt (by rw[hG.out];simpa using he)
      rw[hG.out] at h1
      exact ⟨ret_int (by rw[hv.out (by rw[h1];simpa using he),h1]),keep_alloc (hB2.trans (hbr.mono (by omega))) _⟩
    ·have e1:decide ((ls[i]?.getD [])[k]?.getD 0<0)=false:=by simpa using g1
     have hG:Hid (lineBad cells (ls[i]?.getD []) k=firstL [whenV (decide (cells≤(ls[i]?.getD [])[k]?.getD 0)) 10,whenV (decide ((ls[i]?.getD [])[k]?.getD 0≤(ls[i]?.getD [])[k - 1]?.getD 0)) 11]):=by
      have:=hF.out;rw[e3',e1] at this;exact this
     clear hF
     go_wp2_with (first|(go_at_call 165;refine (lwhen_c _ _ _).mono ?_;rintro e w2 ⟨rfl,rfl⟩)|(go_at_call 163;refine (lfirst_c _ _ _ _ _ (IC.new2 _ _ _ _)).mono ?_;rintro e w2 ⟨rfl,rfl⟩))
     ·have he:(firstL [whenV (decide (cells≤(ls[i]?.getD [])[k]?.getD 0)) 10,whenV (decide ((ls[i]?.getD [])[k]?.getD 0≤(ls[i]?.getD [])[k - 1]?.getD 0)) 11] != 0)=true:=by assumption
      go_ret
      have h1:=errs_found hn.out hlt (by rw[hG.out];simpa using he)
      rw[hG.out] at h1
      exact ⟨ret_int (by rw[hv.out (by rw[h1];simpa using he),h1]),keep_alloc (hB2.trans (hbr.mono (by omega))) _⟩
     ·have he:(firstL [whenV (decide (cells≤(ls[i]?.getD [])[k]?.getD 0)) 10,whenV (decide ((ls[i]?.getD [])[k]?.getD 0≤(ls[i]?.getD [])[k - 1]?.getD 0)) 11] != 0)=false:=by assumption
      go_roundw
      case rel=>exact ⟨k+1,by omega,by go_num,upto_snoc hn.out (by rw[hG.out];simpa using he),keep_alloc hbr _⟩
      case measure=>simp[intOf];omega
  ·have e:k=n1:=by omega
   subst e
   have he:=Lib.hid (errs_none hn.out)
   have hw:Hid (lineErr cells ls i=whenV (hasLineB (ls.take i) (ls[i]?.getD [])) 9):=by
    unfold Hid lineErr whenV;rw[if_neg (by rw[hI2.len];exact hz),hI2.len,if_neg (by rw[he.out];omega)]
   have hR3:=(hR2.mono hbr).take i (by omega)
   have hE:Hid (anyP (fun j=>sameB ((ls.take i)[j]?.getD []) (ls[i]?.getD [])) i=hasLineB (ls.take i) (ls[i]?.getD [])):=by
    have:=anyP_line (ls.take i) (ls[i]?.getD [])
    rw[hR3.len] at this
    exact this
   have HI:=Lib.hid (containsFuncR_c _ i c _ 222 #[.pointer (some ⟨w.heap.size+1,0,none⟩)] (fun j=>sameB ((ls.take i)[j]?.getD []) (ls[i]?.getD [])) wr hR3 checkLine1_fn
    (fun j _ w' a3 n3 c3 hb3 hi3 _=>checkLine1_c a3 a1 n3 k c3 c1 _ _ _ w' hi3 ((hI2.mono hbr).mono hb3) (((bcell hb3).1 _ _ hsr1).trans y2)))
   rw[hE.out] at HI
   clear hE he hR3
   generalize hasLineB (ls.take i) (ls[i]?.getD [])=r at hw HI
   go_wp2_with (first|(go_at_call 137;refine HI.out.mono ?_;rintro e w1 ⟨rfl,hb1⟩)|(go_at_call 165;refine (lwhen_c _ _ _).mono ?_;rintro e w2 ⟨rfl,rfl⟩))
   go_ret
   exact ⟨ret_int hw.out.symm,(hB2.trans (hbr.mono (by omega))).trans (hb1.mono (by omega))⟩
end
end Go.Proofs.YtaadpihbjhachaaGreat
