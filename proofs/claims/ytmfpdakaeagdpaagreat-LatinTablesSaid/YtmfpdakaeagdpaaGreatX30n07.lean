/- Texts J167 to O7 of this proof, in one file. -/
import Derived.Test.YtmfpdakaeagdpaaGreatW01
import Derived.Test.YtmfpdakaeagdpaaGreatW02
import Derived.Test.YtmfpdakaeagdpaaGreatW03
import Derived.Test.YtmfpdakaeagdpaaGreatW04
import Derived.Test.YtmfpdakaeagdpaaGreatW05
import Derived.Test.YtmfpdakaeagdpaaGreatW06
import Derived.Test.YtmfpdakaeagdpaaGreatW07
import Derived.Test.YtmfpdakaeagdpaaGreatW08
import Derived.Test.YtmfpdakaeagdpaaGreatW09
import Derived.Test.YtmfpdakaeagdpaaGreatW10
import Derived.Test.YtmfpdakaeagdpaaGreatW11
import Derived.Test.YtmfpdakaeagdpaaGreatW12
import Derived.Test.YtmfpdakaeagdpaaGreatW13
import Derived.Test.YtmfpdakaeagdpaaGreatW14
import Derived.Test.YtmfpdakaeagdpaaGreatW15
import Derived.Test.YtmfpdakaeagdpaaGreatW16
import Derived.Test.YtmfpdakaeagdpaaGreatW17
import Derived.Test.YtmfpdakaeagdpaaGreatW18
import Derived.Test.YtmfpdakaeagdpaaGreatW19
import Derived.Test.YtmfpdakaeagdpaaGreatW20
import Derived.Test.YtmfpdakaeagdpaaGreatW21
import Derived.Test.YtmfpdakaeagdpaaGreatW22
import Derived.Test.YtmfpdakaeagdpaaGreatW23
import Derived.Test.YtmfpdakaeagdpaaGreatW24
import Derived.Test.YtmfpdakaeagdpaaGreatW25
import Derived.Test.YtmfpdakaeagdpaaGreatW26
import Derived.Test.YtmfpdakaeagdpaaGreatW27
import Derived.Test.YtmfpdakaeagdpaaGreatX30n01
import Derived.Test.YtmfpdakaeagdpaaGreatX30n02
import Derived.Test.YtmfpdakaeagdpaaGreatX30n03
import Derived.Test.YtmfpdakaeagdpaaGreatX30n04
import Derived.Test.YtmfpdakaeagdpaaGreatX30n05
import Derived.Test.YtmfpdakaeagdpaaGreatX30n06
import Derived.Below
import Derived.BigFrame
import Derived.BigQuiet
import Derived.ChangeArms
import Derived.Deep.CutBlock
import Derived.Deep.CutRange
import Derived.Deep.LoopGhost
import Derived.Deep.Matrix
import Derived.Deep.Quiet
import Derived.Deep.RegionHeld3
import Derived.DeepKeys4
import Derived.KernelRfl
import Derived.Laws.BitsAllLaws
import Derived.Laws.EntriesVeiled
import Derived.Laws.IdiomArrays
import Derived.Lib.AppendZeros
import Derived.Lib.Hide
import Derived.Lib.SlKeysI
import Derived.Lib.SliceRun
import Derived.Lib.SmallJoins
import Derived.LoopIn
import Derived.LoopNIn
import Derived.Maps.AppendAt
import Derived.Maps.OwnIn
import Derived.Maps.OwnSet
import Derived.OneCell
import Derived.OrdersHeld
import Derived.OrdersIn
import Derived.OwnWalkIn
import Derived.ProofKit
import Derived.RangeFuncBound
import Derived.RangeFuncBox
import Derived.RangeFuncCalls
import Derived.RangeFuncLeaves
import Derived.RangeFuncNested
import Derived.RangeFuncWrites
import Derived.Shelf.Abstract
import Derived.Shelf.SortM.Plain
import Derived.SizedLaws
import Derived.Still
import Derived.TacticsIn
import Derived.TacticsInMore
import Derived.Test.YtmfpdakaeagdpaaGreatProg
import Derived.WalkKit
import Derived.WalkLawsBesides
import Derived.WalkSpells
import Derived.WideKeyPair
namespace Go.Proofs.YtmfpdakaeagdpaaGreat
set_option maxRecDepth 100000
set_option maxHeartbeats 16000000
section
open Go Go.RowKit
theorem cyc_lin (N:Nat):madeTo N (cycS N) (N*N)=madeTo N (linS N 1 1) (N*N):=by
 unfold madeTo
 apply List.map_congr_left
 intro k _
 unfold cycS linS
 rw[Int.one_mul,Int.one_mul]
theorem ordE_any {m:Int} (h:ordE m=0):∃N:Nat,m=(N:Int)∧1≤N∧N≤16:=by
 unfold ordE at h
 by_cases h1:1≤m
 ·by_cases h2:m≤16
  ·exact ⟨m.toNat,by omega,by omega,by omega⟩
  ·rw[decide_eq_false h2,Bool.and_false] at h;cases h
 ·rw[decide_eq_false h1,Bool.false_and] at h;cases h
theorem ff_of {w:World} {R:Int} {X Y:List Int} {er:Int} {e:Ending} {w':World} (hg:TwoG w R X Y er e w'):∃a3 c3 a4 c4,e = .returned (.tuple #[.agg #[.int .i64 R,.int .i64 R,.slice a3 X.length c3],.agg #[.int .i64 R,.int .i64 R,.slice a4 Y.length c4],.int .i64 er])∧IC w' a3 X.length X∧IC w' a4 Y.length Y∧Below w.heap.size w w':=by
 obtain ⟨a,c,a2,c2,h1,h2,h3,_,_,h4⟩:=hg
 exact ⟨a,c,a2,c2,h1,h2,h3,h4⟩
theorem made_eqX (N:Int) {X Y:List Int} (h:X=Y):madeB N N X 0 N N Y 0=true:=by rw[h];exact made_eq N Y
theorem same_eqX (N:Int) (X:List Int):sameG N N X N N X=true:=by unfold sameG;simp[sameB]
theorem mN_len (N:Nat) (s:Nat→Nat→Int):(madeTo N s (N*N)).length=N*N:=madeTo_len _ _ _
theorem btF_two (A B:Int):btF A B 2=if (farB A||farB B)=true then 3 else 0:=by
 unfold btF
 rw[if_neg (by decide),if_neg (by decide)]
 cases farB A <;> cases farB B <;> rfl
theorem lr_of {w:World} {N:Nat} {xs:List Int} {e:Ending} {w':World} (hg:GridR w (N:Int) (N*N) xs e w') (hN:N≤16):∃a2 c2,e = .returned (.agg #[.int .i64 (N:Int),.int .i64 (N:Int),.slice a2 (N*N) c2])∧(∀b2 o2,a2=some ⟨b2,o2,none⟩→w.heap.size≤b2)∧IC w' a2 (N*N) xs∧Below w.heap.size w w' :=
 gr_of hg (by have:=Nat.mul_le_mul hN hN;omega)
theorem ltables_c (r C:Int) (a:Option Addr) (n c:Nat) (cs:List Int) (m A B:Int) (w:World) (h:IC w a n cs) (_hcap:n≤c):Calls Tryz.prog 11 #[.agg #[.int .i64 r,.int .i64 C,.slice a n c],.int .i64 m,.agg #[.int .i64 A,.int .i64 B]] w fun e w'=>e = .returned (.bool true)∧Below w.heap.size w w':=by
 by_cases g0:300<n
 ·exact ltab_g r C a n c m A B w g0
 have H5:tH w 58 #[.agg #[.int .i64 r,.int .i64 C,.slice a n c]] (.int .i64 (sqE 0 r C cs)):=fun W hb=>latcheck_c r C a n c cs W (h.mono hb)
 have H6:tH w 22 #[.agg #[.int .i64 r,.int .i64 C,.slice a n c]] (.int .i64 (sqE 0 r C cs)):=fun W hb=>rcheck_c r C a n c cs W (h.mono hb)
 have H7:=fun W=>lorder_c m W
 have H1:=fun W=>cyclic_c m W
 have H2:=fun W=>linear_c m A B W
 generalize sqE 0 r C cs=ea at H5 H6
 by_cases ho:ordE m=0
 ·obtain ⟨N,rfl,hN1,hN2⟩:=ordE_any ho
  have hNN:=Nat.mul_le_mul hN2 hN2
  rw[ho] at H7
  have hc1:cycL (N:Int)=madeTo N (cycS N) (N*N):=by unfold cycL;rw[if_pos ho,Int.toNat_natCast]
  rw[if_pos ho,hc1,ho] at H1
  have H1':tG w 54 #[.int .i64 (N:Int)] (N:Int) (N*N) (madeTo N (cycS N) (N*N)) 0:=fun W _=>(H1 W).mono fun e w' hg=>by
   have h9:=ge_of hg (by rw[mN_len];omega)
   rw[mN_len] at h9
   exact h9
  have H8:tR w #[.int .i64 (N:Int),.int .i64 1,.int .i64 1] (N:Int) (N*N) (madeTo N (linS N 1 1) (N*N)):=fun W _=>(rlin_c N 1 1 W hN1 hN2).mono fun e w' hg=>lr_of hg hN2
  have m1:=made_eqX (N:Int) (cyc_lin N)
  have HF:tH w 63 #[.int .i64 (N:Int)] (.bool (fldB N)):=fun W _=>isf_c N hN1 hN2 W
  have H9:=fun W=>mod_c A (N:Int) W (by omega) (by omega)
  have HA:=fun W=>mod_c B (N:Int) W (by omega) (by omega)
  have hgc:∀x:Int,((Nat.gcd (x % (N:Int)).toNat N:Nat):Int)=(Int.gcd x (N:Int):Nat):=fun x=>by
   have h0:=Int.emod_nonneg x (show (N:Int)≠0 by omega)
   rw[← gcd_emod x (N:Int)]
   unfold Int.gcd
   rw[Int.natAbs_natCast,show (x % (N:Int)).natAbs=(x % (N:Int)).toNat by omega]
  have HG9:∀x:Int,tH w 61 #[.int .i64 (x % (N:Int)),.int .i64 (N:Int)] (.int .i64 (Int.gcd x (N:Int):Nat)):=fun x W _=>by
   have h0:=Int.emod_nonneg x (show (N:Int)≠0 by omega)
   have h1:=Int.emod_lt_of_pos x (show (0:Int)<(N:Int) by omega)
   have h9:=rGcd_c (x % (N:Int)).toNat N W (by omega) (by omega)
   rw[hgc x,show ((x % (N:Int)).toNat:Int)=x % (N:Int) by omega] at h9
   exact h9
  have hfk:(famL N).length≤1000:=by rw[famL_len];omega
  have hLE:linE (N:Int) A B=if (farB A||farB B)=true then 3 else 0:=by
   unfold linE
   rw[ho,firstL_z]
   cases (farB A||farB B) <;> rfl
  have H2bad:∀er:Int,linEr (N:Int) A B=er→er≠0→tG w 55 #[.int .i64 (N:Int),.int .i64 A,.int .i64 B] 0 0 [] er:=fun er he h0 W _=>(H2 W).mono fun e w' hg=>by
   rw[show linL (N:Int) A B=[] by unfold linL;rw[if_neg (by rw[he];exact h0)],he,if_neg h0] at hg
   exact ge_of hg (by decide)
  by_cases hf:fldB N=true
  ·rw[hf] at HF
   have H3:tF w (N:Int) (N:Int) (N*N) (N*N) (fadL N) (ftiL N) 0:=fun W _=>(field_ok N hN1 hN2 hf W).mono fun e w' hg=>by
    have h9:=ff_of hg
    rw[show (fadL N).length=N*N from mN_len _ _,show (ftiL N).length=N*N from mN_len _ _] at h9
    exact h9
   have H4:tL w (N:Int) (famL N).length N (famL N) 0:=fun W _=>family_ok N hN1 hN2 hf W
   have HG:tS w (N:Int) (N:Int) (N*N) (N*N) (fadL N) (ftiL N):=fun W _=>(rfield_c N W hN1 hN2 hf).mono fun e w' hg=>by
    obtain ⟨ga,gb,h1,h2,h3,h4⟩:=hg
    exact ⟨_,_,_,_,h1,h2.ic (by omega),h3.ic (by omega),h4⟩
   have HI:tM w (N:Int) (famL N).length N (famL N):=fun W _=>rfamily_c N W hN1 hN2 hf
   by_cases hfar:(farB A||farB B)=true
   ·rw[if_pos hfar] at hLE
    have hEr:linEr (N:Int) A B=3:=by unfold linEr;rw[hLE,if_neg (by decide)]
    exact ltab_RF r C a n c _ A B w g0 ea _ _ _ _ _ _ _ _ _ _ _ _ _ _ _ _ _ hfk 0 _ _ m1 (by rw[btF_two,if_pos hfar]) (made_bad (by decide)) rfl (made_eq _ _) (same_eqX _ _) H1' (H2bad 3 hEr (by decide)) H3 H4 H5 H6 H7 H8 HF HG HI
   ·rw[if_neg hfar] at hLE
    by_cases hs:sinB (N:Int) A B=true
    ·have hEr:linEr (N:Int) A B=18:=by unfold linEr;rw[hLE,if_pos rfl,if_pos hs]
     have hsing:((Int.gcd A (N:Int):Nat):Int)≠1∨((Int.gcd B (N:Int):Nat):Int)≠1:=by
      unfold sinB at hs
      simp only[Bool.or_eq_true,Bool.not_eq_true',decide_eq_false_iff_not] at hs
      omega
     exact ltab_SF r C a n c _ A B w g0 ea _ _ _ _ _ _ _ _ _ _ _ _ _ _ _ _ _ hfk 0 _ _ m1 (by rw[btF_two,if_neg hfar]) _ _ _ _ hsing (made_bad (by decide)) rfl (made_eq _ _) (same_eqX _ _) H1' (H2bad 18 hEr (by decide)) H3 H4 H5 H6 H7 H8 H9 HA (HG9 A) (HG9 B) HF HG HI
    ·have hEr:linEr (N:Int) A B=0:=by unfold linEr;rw[hLE,if_pos rfl,if_neg hs]
     have hg1:((Int.gcd A (N:Int):Nat):Int)=1∧((Int.gcd B (N:Int):Nat):Int)=1:=by
      unfold sinB at hs
      simp only[Bool.or_eq_true,Bool.not_eq_true',decide_eq_false_iff_not,not_or,Decidable.not_not] at hs
      omega
     have H2ok:tG w 55 #[.int .i64 (N:Int),.int .i64 A,.int .i64 B] (N:Int) (N*N) (madeTo N (linS N A B) (N*N)) 0:=fun W _=>(H2 W).mono fun e w' hg=>by
      rw[show linL (N:Int) A B=madeTo N (linS N A B) (N*N) by unfold linL;rw[if_pos hEr,Int.toNat_natCast],hEr,if_pos rfl] at hg
      have h9:=ge_of hg (by rw[mN_len];omega)
      rw[mN_len] at h9
      exact h9
     have HE:tR w #[.int .i64 (N:Int),.int .i64 A,.int .i64 B] (N:Int) (N*N) (madeTo N (linS N A B) (N*N)):=fun W _=>(rlin_c N A B W hN1 hN2).mono fun e w' hg=>lr_of hg hN2
     exact ltab_OF r C a n c _ A B w g0 ea _ _ _ _ _ _ _ _ _ _ _ _ _ _ _ _ _ hfk 0 _ _ m1 (by rw[btF_two,if_neg hfar]) _ _ _ _ hg1.1 hg1.2 _ _ (made_eq _ _) rfl (made_eq _ _) (same_eqX _ _) H1' H2ok H3 H4 H5 H6 H7 H8 H9 HA (HG9 A) (HG9 B) HE HF HG HI
  ·have hf2:fldB N=false:=by simpa using hf
   rw[hf2] at HF
   have hfE:fieE (N:Int)=15:=by unfold fieE;rw[if_pos ho,Int.toNat_natCast,hf2];rfl
   have H3:tF w (N:Int) 0 0 0 [] [] 15:=fun W _=>(field_any (N:Int) 15 hfE (by decide) W).mono fun e w' hg=>ff_of hg
   have H4:tL w (N:Int) 0 0 [] 15:=fun W _=>family_any (N:Int) 15 hfE (by decide) W
   have m3:=made_bad (er:=15) (by decide)
   have m4:=same_eqX 0 []
   by_cases hfar:(farB A||farB B)=true
   ·rw[if_pos hfar] at hLE
    have hEr:linEr (N:Int) A B=3:=by unfold linEr;rw[hLE,if_neg (by decide)]
    exact ltab_RN r C a n c _ A B w g0 ea _ _ _ _ _ _ _ _ _ _ _ _ _ _ _ _ _ (by omega) 15 _ _ m1 (by rw[btF_two,if_pos hfar]) (made_bad (by decide)) rfl rfl m3 m4 H1' (H2bad 3 hEr (by decide)) H3 H4 H5 H6 H7 H8 HF
   ·rw[if_neg hfar] at hLE
    by_cases hs:sinB (N:Int) A B=true
    ·have hEr:linEr (N:Int) A B=18:=by unfold linEr;rw[hLE,if_pos rfl,if_pos hs]
     have hsing:((Int.gcd A (N:Int):Nat):Int)≠1∨((Int.gcd B (N:Int):Nat):Int)≠1:=by
      unfold sinB at hs
      simp only[Bool.or_eq_true,Bool.not_eq_true',decide_eq_false_iff_not] at hs
      omega
     exact ltab_SN r C a n c _ A B w g0 ea _ _ _ _ _ _ _ _ _ _ _ _ _ _ _ _ _ (by omega) 15 _ _ m1 (by rw[btF_two,if_neg hfar]) _ _ _ _ hsing (made_bad (by decide)) rfl rfl m3 m4 H1' (H2bad 18 hEr (by decide)) H3 H4 H5 H6 H7 H8 H9 HA (HG9 A) (HG9 B) HF
    ·have hEr:linEr (N:Int) A B=0:=by unfold linEr;rw[hLE,if_pos rfl,if_neg hs]
     have hg1:((Int.gcd A (N:Int):Nat):Int)=1∧((Int.gcd B (N:Int):Nat):Int)=1:=by
      unfold sinB at hs
      simp only[Bool.or_eq_true,Bool.not_eq_true',decide_eq_false_iff_not,not_or,Decidable.not_not] at hs
      omega
     have H2ok:tG w 55 #[.int .i64 (N:Int),.int .i64 A,.int .i64 B] (N:Int) (N*N) (madeTo N (linS N A B) (N*N)) 0:=fun W _=>(H2 W).mono fun e w' hg=>by
      rw[show linL (N:Int) A B=madeTo N (linS N A B) (N*N) by unfold linL;rw[if_pos hEr,Int.toNat_natCast],hEr,if_pos rfl] at hg
      have h9:=ge_of hg (by rw[mN_len];omega)
      rw[mN_len] at h9
      exact h9
     have HE:tR w #[.int .i64 (N:Int),.int .i64 A,.int .i64 B] (N:Int) (N*N) (madeTo N (linS N A B) (N*N)):=fun W _=>(rlin_c N A B W hN1 hN2).mono fun e w' hg=>lr_of hg hN2
     exact ltab_ON r C a n c _ A B w g0 ea _ _ _ _ _ _ _ _ _ _ _ _ _ _ _ _ _ (by omega) 15 _ _ m1 (by rw[btF_two,if_neg hfar]) _ _ _ _ hg1.1 hg1.2 _ _ (made_eq _ _) rfl rfl m3 m4 H1' H2ok H3 H4 H5 H6 H7 H8 H9 HA (HG9 A) (HG9 B) HE HF
 ·have hc1:cycL m=[]:=by unfold cycL;rw[if_neg ho]
  have hE:linE m A B=ordE m:=by unfold linE;exact firstL_ne ho
  have hEr:linEr m A B=ordE m:=by unfold linEr;rw[if_neg (by rw[hE];exact ho),hE]
  have hL:linL m A B=[]:=by unfold linL;rw[if_neg (by rw[hEr];exact ho)]
  have hfE:fieE m=ordE m:=by unfold fieE;rw[if_neg ho]
  rw[if_neg ho,hc1] at H1
  rw[hEr,hL,if_neg ho] at H2
  have H3:tF w m 0 0 0 [] [] (ordE m):=fun W _=>(field_any m _ hfE ho W).mono fun e w' hg=>ff_of hg
  have H4:tL w m 0 0 [] (ordE m):=fun W _=>family_any m _ hfE ho W
  exact ltab_A r C a n c m A B w g0 ea 0 0 [] _ 0 0 [] _ 0 0 0 [] [] _ 0 0 [] (by omega) _ _ ho rfl rfl (made_bad ho) (made_bad ho) (made_bad ho) (same_eqX 0 []) (fun W _=>(H1 W).mono fun e w' hg=>ge_of hg (by decide)) (fun W _=>(H2 W).mono fun e w' hg=>ge_of hg (by decide)) H3 H4 H5 H6 H7
end
section
open Go Go.RowKit Go.ChangeShapes Go.WideShapes
section
variable {H:Type} {enc:TypeId × Value→H} {P:Program} {w:World} {base:Nat} {spare:Nat→Bool} {held:Bool}
theorem O7.okArr {t e:TypeId} {n:Nat} {r:Reach} {b0:Nat} {v:Value} (ht:P.underlying t=some (.array n e)) (h:Value.okWide P w r b0 t v):∃cs,v = .agg cs∧cs.size=P.cellsOf t:=by
 simp only[Value.okWide,ht] at h
 obtain ⟨cs,h1,h2,_⟩:=h
 exact ⟨cs,h1,h2⟩
theorem O7.array2 {α:Type} {cs:Array α} (h:cs.size=2):∃c0 c1,cs=#[c0,c1]:=by
 obtain ⟨l⟩:=cs
 match l,h with
 | [c0,c1],_=>exact ⟨c0,c1,rfl⟩
theorem O7.trod2 {t e:TypeId} {fuel:Nat} {c0 c1:Value} {x:DataW H × List MemPlace} (ht:P.underlying t=some (.array 2 e)) (hce:P.cellsOf e=1)
  (h:DataW.trod enc P w base spare held fuel t [c0,c1]=some x) :
  ∃y0 y1 n,DataW.trod enc P w base spare held n e [c0]=some y0∧DataW.trod enc P w base spare held n e [c1]=some y1:=by
 cases fuel with
 | zero=>simp[DataW.trod] at h
 | succ n =>
  unfold DataW.trod at h
  rw[ht] at h
  have r2:List.range 2=[0,1]:=rfl
  simp[r2,hce] at h
  obtain ⟨_,h⟩:=h
  cases h0:DataW.trod enc P w base spare held n e [c0] with
  | none=>simp[h0] at h
  | some y0 =>
   cases h1:DataW.trod enc P w base spare held n e [c1] with
   | none=>simp[h0,h1] at h
   | some y1=>exact ⟨y0,y1,n,h0,h1⟩
end
section
variable {H:Type} {enc:TypeId × Value→H} {w:World} {held:Bool}
theorem O7.cellsP:Tryz.prog.cellsOf 62=2:=by kernel_rfl
theorem open_pair {base:Nat} {v:Value} {d:DataW H} {p:List MemPlace} (hv:Value.okWide Tryz.prog w .any base 62 v) (h:DataW.Trod enc Tryz.prog w 0 (fun _=>true) held 62 v d p):∃p0 p1:Int,v = .agg #[.int .i64 p0,.int .i64 p1]:=by
 obtain ⟨cs,rfl,hsz⟩:=O7.okArr Tryz.underlying62 hv
 obtain ⟨c0,c1,rfl⟩:=O7.array2 (hsz.trans O7.cellsP)
 obtain ⟨fuel,hf⟩:=h
 obtain ⟨y0,y1,m,h0,h1⟩:=O7.trod2 Tryz.underlying62 O1.cells3 hf
 obtain ⟨p0,e0,_,_⟩:=DataW.trod_int Tryz.underlying3 h0
 obtain ⟨p1,e1,_,_⟩:=DataW.trod_int Tryz.underlying3 h1
 simp only[List.cons.injEq,and_true] at e0 e1
 exact ⟨p0,p1,by rw[e0,e1]⟩
end
end
end Go.Proofs.YtmfpdakaeagdpaaGreat
