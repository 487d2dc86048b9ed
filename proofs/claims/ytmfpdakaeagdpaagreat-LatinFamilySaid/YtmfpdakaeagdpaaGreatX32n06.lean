/- Texts J172 to J172 of this proof, in one file. -/
import Derived.Test.YtmfpdakaeagdpaaGreatW01
import Derived.Test.YtmfpdakaeagdpaaGreatW02
import Derived.Test.YtmfpdakaeagdpaaGreatW03
import Derived.Test.YtmfpdakaeagdpaaGreatW04
import Derived.Test.YtmfpdakaeagdpaaGreatW05
import Derived.Test.YtmfpdakaeagdpaaGreatW06
import Derived.Test.YtmfpdakaeagdpaaGreatW07
import Derived.Test.YtmfpdakaeagdpaaGreatW08
import Derived.Test.YtmfpdakaeagdpaaGreatW09
import Derived.Test.YtmfpdakaeagdpaaGreatW10
import Derived.Test.YtmfpdakaeagdpaaGreatW11
import Derived.Test.YtmfpdakaeagdpaaGreatW12
import Derived.Test.YtmfpdakaeagdpaaGreatW13
import Derived.Test.YtmfpdakaeagdpaaGreatW14
import Derived.Test.YtmfpdakaeagdpaaGreatW15
import Derived.Test.YtmfpdakaeagdpaaGreatW16
import Derived.Test.YtmfpdakaeagdpaaGreatW17
import Derived.Test.YtmfpdakaeagdpaaGreatW18
import Derived.Test.YtmfpdakaeagdpaaGreatW19
import Derived.Test.YtmfpdakaeagdpaaGreatW20
import Derived.Test.YtmfpdakaeagdpaaGreatW21
import Derived.Test.YtmfpdakaeagdpaaGreatW22
import Derived.Test.YtmfpdakaeagdpaaGreatW23
import Derived.Test.YtmfpdakaeagdpaaGreatW24
import Derived.Test.YtmfpdakaeagdpaaGreatW25
import Derived.Test.YtmfpdakaeagdpaaGreatW26
import Derived.Test.YtmfpdakaeagdpaaGreatW27
import Derived.Test.YtmfpdakaeagdpaaGreatX32n01
import Derived.Test.YtmfpdakaeagdpaaGreatX32n02
import Derived.Test.YtmfpdakaeagdpaaGreatX32n03
import Derived.Test.YtmfpdakaeagdpaaGreatX32n04
import Derived.Test.YtmfpdakaeagdpaaGreatX32n05
import Derived.Below
import Derived.BigFrame
import Derived.BigQuiet
import Derived.Deep.CutBlock
import Derived.Deep.CutRange
import Derived.Deep.LoopGhost
import Derived.Deep.Quiet
import Derived.Deep.RegionHeld3
import Derived.DeepKeys4
import Derived.KernelRfl
import Derived.Laws.BitsAllLaws
import Derived.Laws.EntriesVeiled
import Derived.Lib.AppendZeros
import Derived.Lib.Hide
import Derived.Lib.SlKeysI
import Derived.Lib.SliceRun
import Derived.LoopIn
import Derived.LoopNIn
import Derived.Maps.AppendAt
import Derived.Maps.OwnIn
import Derived.Maps.OwnSet
import Derived.OneCell
import Derived.OrdersHeld
import Derived.OrdersIn
import Derived.OwnWalkIn
import Derived.RangeFuncBound
import Derived.RangeFuncBox
import Derived.RangeFuncCalls
import Derived.RangeFuncLeaves
import Derived.RangeFuncNested
import Derived.RangeFuncWrites
import Derived.Shelf.Abstract
import Derived.Shelf.SortM.Plain
import Derived.Still
import Derived.TacticsIn
import Derived.TacticsInMore
import Derived.Test.YtmfpdakaeagdpaaGreatProg
import Derived.WalkKit
import Derived.WalkLawsBesides
import Derived.WalkSpells
import Derived.WideKeyPair
namespace Go.Proofs.YtmfpdakaeagdpaaGreat
set_option maxRecDepth 100000
set_option maxHeartbeats 16000000
section
open Go Go.RowKit
theorem lfamily_n (O X0 X1 X2 X3 X4:Nat) (w:World) (hO:O≤255) (hX:X0≤255∧X1≤255∧X2≤255∧X3≤255∧X4≤255):Calls Tryz.prog 15 #[.int .u8 (O:Int),.agg #[.int .u8 (X0:Int),.int .u8 (X1:Int),.int .u8 (X2:Int),.int .u8 (X3:Int),.int .u8 (X4:Int)]] w fun e w'=>e = .returned (.bool true)∧Below w.heap.size w w':=by
 obtain ⟨Mo,hMo⟩:∃Mo,Mo=O % 16:=⟨_,rfl⟩
 have hM:(O:Int) % 16=(Mo:Int):=by omega
 obtain ⟨N,hN⟩:∃N,N=1+Mo:=⟨_,rfl⟩
 have hNI:1+(Mo:Int)=(N:Int):=by omega
 have hN1:1≤N:=by omega
 have hN2:N≤16:=by omega
 clear hMo hN
 have hNN:=Nat.mul_le_mul hN2 hN2
 have ho:ordE (N:Int)=0:=by
  unfold ordE
  rw[decide_eq_true (show (1:Int)≤(N:Int) by omega),decide_eq_true (show (N:Int)≤16 by omega)]
  rfl
 have hc1:cycL (N:Int)=madeTo N (cycS N) (N*N):=by unfold cycL;rw[if_pos ho,Int.toNat_natCast]
 have LC:Latin N (madeTo N (linS N 1 1) (N*N)):=lin_latin hN1 hN2 Int.one_gcd Int.one_gcd
 have H1:tG w 54 #[.int .i64 (N:Int)] (N:Int) (N*N) (madeTo N (linS N 1 1) (N*N)) 0:=fun W _=>(cyclic_c (N:Int) W).mono fun e w' hg=>by
  rw[if_pos ho,hc1,ho,cyc_lin] at hg
  have h9:=ge_of hg (by rw[mN_len];omega)
  rw[mN_len] at h9
  exact h9
 have HC1:∀W a c,IC W a (N*N) (madeTo N (linS N 1 1) (N*N))→Calls Tryz.prog 22 #[.agg #[.int .i64 (N:Int),.int .i64 (N:Int),.slice a (N*N) c]] W fun e w'=>e = .returned (.int .i64 0)∧Below W.heap.size W w':=fun W a c hi=>by
  have h9:=rcheck_c (N:Int) (N:Int) a (N*N) c _ W hi
  rw[lat_sqE LC] at h9
  exact h9
 have HM:=fun W=>mod_c ((X3:Int) - (X4:Int)) (N:Int) W (by omega) (by omega)
 have h0:=Int.emod_nonneg ((X3:Int) - (X4:Int)) (show (N:Int)≠0 by omega)
 have h1:=Int.emod_lt_of_pos ((X3:Int) - (X4:Int)) (show (0:Int)<(N:Int) by omega)
 have HG:tH w 61 #[.int .i64 (((X3:Int) - (X4:Int)) % (N:Int)),.int .i64 (N:Int)] (.int .i64 (Int.gcd ((X3:Int) - (X4:Int)) (N:Int):Nat)):=fun W _=>by
  have h9:=rGcd_c (((X3:Int) - (X4:Int)) % (N:Int)).toNat N W (by omega) (by omega)
  have e9:((Nat.gcd (((X3:Int) - (X4:Int)) % (N:Int)).toNat N:Nat):Int)=(Int.gcd ((X3:Int) - (X4:Int)) (N:Int):Nat):=by
   rw[← gcd_emod ((X3:Int) - (X4:Int)) (N:Int)]
   unfold Int.gcd
   rw[Int.natAbs_natCast,show (((X3:Int) - (X4:Int)) % (N:Int)).natAbs=(((X3:Int) - (X4:Int)) % (N:Int)).toNat by omega]
  rw[e9,show (((((X3:Int) - (X4:Int)) % (N:Int)).toNat:Nat):Int)=((X3:Int) - (X4:Int)) % (N:Int) by omega] at h9
  exact h9
 have hfar:∀x:Nat,x≤255→farB (x:Int)=false:=fun x hx=>by
  unfold farB
  rw[decide_eq_false (show ¬(x:Int) < -999999999 by omega),decide_eq_false (show ¬(999999999:Int)<(x:Int) by omega)]
  rfl
 have hLE:linE (N:Int) (X3:Int) (X4:Int)=0:=by
  unfold linE
  rw[ho,firstL_z,hfar X3 hX.2.2.2.1,hfar X4 hX.2.2.2.2]
  rfl
 -- the linear square
 have hlin:∃(R2:Int) (k2:Nat) (Y2:List Int) (er2:Int) (B:Bool),(er2=0∨er2=18)∧(er2=0→B=(((Int.gcd ((X3:Int) - (X4:Int)) (N:Int):Nat):Int)==1)) ∧
   tG w 55 #[.int .i64 (N:Int),.int .i64 (X3:Int),.int .i64 (X4:Int)] R2 k2 Y2 er2 ∧
   (er2=0→∀W a c a2 c2,IC W a k2 Y2→IC W a2 (N*N) (madeTo N (linS N 1 1) (N*N))→Calls Tryz.prog 45 #[.agg #[.int .i64 R2,.int .i64 R2,.slice a k2 c],.agg #[.int .i64 (N:Int),.int .i64 (N:Int),.slice a2 (N*N) c2]] W fun e w'=>e = .returned (.tuple #[.bool B,.int .i64 0])∧Below W.heap.size W w'):=by
  by_cases hs:sinB (N:Int) (X3:Int) (X4:Int)=true
  ·have hEr:linEr (N:Int) (X3:Int) (X4:Int)=18:=by unfold linEr;rw[hLE,if_pos rfl,if_pos hs]
   refine ⟨0,0,[],18,true,.inr rfl,fun h=>absurd h (by decide),fun W _=>(linear_c (N:Int) (X3:Int) (X4:Int) W).mono fun e w' hg=>?_,fun h=>absurd h (by decide)⟩
   rw[show linL (N:Int) (X3:Int) (X4:Int)=[] by unfold linL;rw[if_neg (by rw[hEr];decide)],hEr,if_neg (by decide)] at hg
   exact ge_of hg (by decide)
  ·have hEr:linEr (N:Int) (X3:Int) (X4:Int)=0:=by unfold linEr;rw[hLE,if_pos rfl,if_neg hs]
   have hg1:Int.gcd (X3:Int) (N:Int)=1∧Int.gcd (X4:Int) (N:Int)=1:=by
    unfold sinB at hs
    simp only[Bool.or_eq_true,Bool.not_eq_true',decide_eq_false_iff_not,not_or,Decidable.not_not] at hs
    exact hs
   have LL:=lin_latin hN1 hN2 hg1.1 hg1.2
   have hO:=lin_ortho hN1 hN2 hg1.1 hg1.2
   refine ⟨(N:Int),N*N,madeTo N (linS N (X3:Int) (X4:Int)) (N*N),0,(meetR (madeTo N (linS N (X3:Int) (X4:Int)) (N*N)) (madeTo N (linS N 1 1) (N*N))).isNone,.inl rfl,fun _=>?_,fun W _=>(linear_c (N:Int) (X3:Int) (X4:Int) W).mono fun e w' hg=>?_,fun _ W a c a2 c2 hi hj=>?_⟩
   ·rw[hO]
    by_cases h:Int.gcd ((X3:Int) - (X4:Int)) (N:Int)=1
    ·rw[h];rfl
    ·rw[decide_eq_false h]
     symm
     simpa using (show ¬((Int.gcd ((X3:Int) - (X4:Int)) (N:Int):Nat):Int)=1 by omega)
   ·rw[show linL (N:Int) (X3:Int) (X4:Int)=madeTo N (linS N (X3:Int) (X4:Int)) (N*N) by unfold linL;rw[if_pos hEr,Int.toNat_natCast],hEr,if_pos rfl] at hg
    have h9:=ge_of hg (by rw[mN_len];omega)
    rw[mN_len] at h9
    exact h9
   ·have h9:=orth_c (N:Int) (N:Int) (N:Int) (N:Int) a (N*N) c _ a2 (N*N) c2 _ W hi hj
    rw[show orthV (N:Int) (N:Int) (madeTo N (linS N (X3:Int) (X4:Int)) (N*N)) (N:Int) (N:Int) (madeTo N (linS N 1 1) (N*N)) = .tuple #[.bool (meetR (madeTo N (linS N (X3:Int) (X4:Int)) (N*N)) (madeTo N (linS N 1 1) (N*N))).isNone,.int .i64 0] by
     unfold orthV
     rw[if_pos (show twoE (N:Int) (N:Int) (madeTo N (linS N (X3:Int) (X4:Int)) (N*N)) (N:Int) (N:Int) (madeTo N (linS N 1 1) (N*N))=0 by unfold twoE;rw[lat_sqE LL,lat_sqE LC,show ((N:Int) != (N:Int))=false by simp];rfl)]] at h9
    exact h9
 obtain ⟨R2,k2,Y2,er2,B,her2,hB,H2,HO1⟩:=hlin
 have HF:tH w 63 #[.int .i64 (N:Int)] (.bool (fldB N)):=fun W _=>isf_c N hN1 hN2 W
 by_cases hf:fldB N=true
 ·rw[hf] at HF
  have LA:=fad_latin hN2 hf hN1
  have H3:tF w (N:Int) (N:Int) (N*N) (N*N) (fadL N) (ftiL N) 0:=fun W _=>(field_ok N hN1 hN2 hf W).mono fun e w' hg=>by
   have h9:=ff_of hg
   rw[show (fadL N).length=N*N from mN_len _ _,show (ftiL N).length=N*N from mN_len _ _] at h9
   exact h9
  have H4:tL w (N:Int) (famL N).length N (famL N) 0:=fun W _=>family_ok N hN1 hN2 hf W
  exact lfam_F O X0 X1 X2 X3 X4 w hX N Mo hO hM hNI hN2 R2 k2 Y2 er2 her2 (N*N) _ B _ _ hB (N:Int) (N*N) (N*N) _ _ 0 (famL N).length N (famL N) 0 rfl rfl rfl rfl (by rw[famL_len];omega) rfl hf rfl rfl rfl rfl H1 H2 HC1 HO1 HM HG H3 H4 HF (fun W a c hi=>by
   have h9:=rcheck_c (N:Int) (N:Int) a (N*N) c _ W hi
   rw[lat_sqE LA] at h9
   exact h9)
 ·have hf2:fldB N=false:=by simpa using hf
  rw[hf2] at HF
  have hfE:fieE (N:Int)=15:=by unfold fieE;rw[if_pos ho,Int.toNat_natCast,hf2];rfl
  have H3:tF w (N:Int) 0 0 0 [] [] 15:=fun W _=>(field_any (N:Int) 15 hfE (by decide) W).mono fun e w' hg=>ff_of hg
  have H4:tL w (N:Int) 0 0 [] 15:=fun W _=>family_any (N:Int) 15 hfE (by decide) W
  exact lfam_N O X0 X1 X2 X3 X4 w hX N Mo hO hM hNI hN2 R2 k2 Y2 er2 her2 (N*N) _ B _ _ hB 0 0 0 [] [] 15 0 0 [] 15 rfl rfl H1 H2 HC1 HO1 HM HG H3 H4 HF
theorem lfamily_c (o p0 p1 p2 p3 p4:Int) (w:World) (ho0:0≤o) (ho1:o≤255) (hp:∀x,x∈[p0,p1,p2,p3,p4]→0≤x∧x≤255):Calls Tryz.prog 15 #[.int .u8 o,.agg #[.int .u8 p0,.int .u8 p1,.int .u8 p2,.int .u8 p3,.int .u8 p4]] w fun e w'=>e = .returned (.bool true)∧Below w.heap.size w w':=by
 have h0:=hp p0 (by simp)
 have h1:=hp p1 (by simp)
 have h2:=hp p2 (by simp)
 have h3:=hp p3 (by simp)
 have h4:=hp p4 (by simp)
 obtain ⟨O,rfl⟩:∃O:Nat,o=(O:Int):=⟨o.toNat,by omega⟩
 obtain ⟨X0,rfl⟩:∃X:Nat,p0=(X:Int):=⟨p0.toNat,by omega⟩
 obtain ⟨X1,rfl⟩:∃X:Nat,p1=(X:Int):=⟨p1.toNat,by omega⟩
 obtain ⟨X2,rfl⟩:∃X:Nat,p2=(X:Int):=⟨p2.toNat,by omega⟩
 obtain ⟨X3,rfl⟩:∃X:Nat,p3=(X:Int):=⟨p3.toNat,by omega⟩
 obtain ⟨X4,rfl⟩:∃X:Nat,p4=(X:Int):=⟨p4.toNat,by omega⟩
 exact lfamily_n O X0 X1 X2 X3 X4 w (by omega) ⟨by omega,by omega,by omega,by omega,by omega⟩
end
end Go.Proofs.YtmfpdakaeagdpaaGreat
