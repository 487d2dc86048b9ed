/- Texts J147 to O6 of this proof, in one file. -/
import Derived.Test.YtmfpdakaeagdpaaGreatW01
import Derived.Test.YtmfpdakaeagdpaaGreatW02
import Derived.Test.YtmfpdakaeagdpaaGreatW03
import Derived.Test.YtmfpdakaeagdpaaGreatW04
import Derived.Test.YtmfpdakaeagdpaaGreatW05
import Derived.Test.YtmfpdakaeagdpaaGreatW06
import Derived.Test.YtmfpdakaeagdpaaGreatW07
import Derived.Test.YtmfpdakaeagdpaaGreatW08
import Derived.Test.YtmfpdakaeagdpaaGreatW09
import Derived.Test.YtmfpdakaeagdpaaGreatW10
import Derived.Test.YtmfpdakaeagdpaaGreatW11
import Derived.Test.YtmfpdakaeagdpaaGreatW12
import Derived.Test.YtmfpdakaeagdpaaGreatW13
import Derived.Test.YtmfpdakaeagdpaaGreatW14
import Derived.Test.YtmfpdakaeagdpaaGreatW15
import Derived.Test.YtmfpdakaeagdpaaGreatW16
import Derived.Test.YtmfpdakaeagdpaaGreatW17
import Derived.Test.YtmfpdakaeagdpaaGreatW18
import Derived.Test.YtmfpdakaeagdpaaGreatW19
import Derived.Test.YtmfpdakaeagdpaaGreatW20
import Derived.Test.YtmfpdakaeagdpaaGreatW21
import Derived.Test.YtmfpdakaeagdpaaGreatW22
import Derived.Test.YtmfpdakaeagdpaaGreatW23
import Derived.Test.YtmfpdakaeagdpaaGreatW24
import Derived.Test.YtmfpdakaeagdpaaGreatW25
import Derived.Test.YtmfpdakaeagdpaaGreatW26
import Derived.Test.YtmfpdakaeagdpaaGreatW27
import Derived.Test.YtmfpdakaeagdpaaGreatX28n01
import Derived.Test.YtmfpdakaeagdpaaGreatX28n02
import Derived.Test.YtmfpdakaeagdpaaGreatX28n03
import Derived.Test.YtmfpdakaeagdpaaGreatX28n04
import Derived.Test.YtmfpdakaeagdpaaGreatX28n05
import Derived.Below
import Derived.BigFrame
import Derived.BigQuiet
import Derived.Deep.CutBlock
import Derived.Deep.CutRange
import Derived.Deep.LoopGhost
import Derived.Deep.Matrix
import Derived.Deep.Quiet
import Derived.Deep.RegionHeld3
import Derived.DeepKeys4
import Derived.KernelRfl
import Derived.Laws.BitsAllLaws
import Derived.Laws.EntriesVeiled
import Derived.Laws.IdiomArrays
import Derived.Lib.AppendZeros
import Derived.Lib.Hide
import Derived.Lib.SlKeysI
import Derived.Lib.SliceRun
import Derived.Lib.SmallJoins
import Derived.LoopIn
import Derived.LoopNIn
import Derived.Maps.AppendAt
import Derived.Maps.OwnIn
import Derived.Maps.OwnSet
import Derived.OneCell
import Derived.OrdersHeld
import Derived.OrdersIn
import Derived.OwnWalkIn
import Derived.ProofKit
import Derived.RangeFuncBound
import Derived.RangeFuncBox
import Derived.RangeFuncCalls
import Derived.RangeFuncLeaves
import Derived.RangeFuncNested
import Derived.RangeFuncWrites
import Derived.Shelf.Abstract
import Derived.Shelf.SortM.Plain
import Derived.SizedLaws
import Derived.Still
import Derived.TacticsIn
import Derived.TacticsInMore
import Derived.Test.YtmfpdakaeagdpaaGreatProg
import Derived.WalkKit
import Derived.WalkLawsBesides
import Derived.WalkSpells
import Derived.WideKeyPair
namespace Go.Proofs.YtmfpdakaeagdpaaGreat
set_option maxRecDepth 100000
set_option maxHeartbeats 16000000
section
open Go Go.RowKit
theorem ge_of {w:World} {R:Int} {X:List Int} {er:Int} {e:Ending} {w':World} (hg:GridE w R R X er e w') (hl:X.length≤1000):∃a2 c2,e = .returned (.tuple #[.agg #[.int .i64 R,.int .i64 R,.slice a2 X.length c2],.int .i64 er])∧IC w' a2 X.length X∧Below w.heap.size w w':=by
 obtain ⟨a2,c2,he,hi,_,hb⟩:=gv_of hg hl
 exact ⟨a2,c2,he,hi,hb⟩
theorem gr_of {w:World} {n:Int} {m:Nat} {xs:List Int} {e:Ending} {w':World} (hg:GridR w n m xs e w') (hm:m≤1000):∃a2 c2,e = .returned (.agg #[.int .i64 n,.int .i64 n,.slice a2 m c2])∧(∀b2 o2,a2=some ⟨b2,o2,none⟩→w.heap.size≤b2)∧IC w' a2 m xs∧Below w.heap.size w w':=by
 obtain ⟨g,he,ho,hb⟩:=hg
 refine ⟨some ⟨g,0,none⟩,m,he,fun b2 o2 e=>?_,ho.ic (by omega),hb⟩
 injection e with e
 injection e with e1
 rw[← e1]
 exact ho.blk.1
theorem perm_l {p:List Int} {N:Nat} (h:cpE p (N:Int)=0):PermL N p:=by
 have n1:=cpE_ok h
 have h1:=cpE_val p (N:Int)
 rw[h,if_pos (by rw[n1.len])] at h1
 have hp:permE p=0:=by
  by_cases e:permE p=0
  ·exact e
  ·rw[if_neg e] at h1;exact absurd h1 (by decide)
 exact ⟨n1.len,(perm_ok hp).2.nodup,n1.num⟩
theorem first3 (x y z:Int):firstL [0,x,y,z]=(if (if x=0 then y else x)=0 then z else (if x=0 then y else x)):=by
 rw[firstL_z]
 by_cases hx:x=0
 ·rw[if_pos hx,hx,firstL_z]
  by_cases hy:y=0
  ·rw[if_pos hy,hy,firstL_z]
   by_cases hz:z=0
   ·rw[hz];rfl
   ·rw[firstL_ne hz]
  ·rw[if_neg hy,firstL_ne hy]
 ·rw[if_neg hx,if_neg hx,firstL_ne hx]
theorem first1 (x:Int):firstL [0,x]=x:=by
 rw[firstL_z]
 by_cases hx:x=0
 ·rw[hx];rfl
 ·rw[firstL_ne hx]
theorem made_bad {er:Int} (h:er≠0):madeB 0 0 [] er 0 0 [] er=true:=by unfold madeB sameG;simp[h,sameB]
theorem made_eq (N:Int) (X:List Int):madeB N N X 0 N N X 0=true:=by unfold madeB sameG;simp[sameB]
theorem riso_n (N nn:Nat) (hnn:nn=N*N) (a:Option Addr) (ca:Nat) (cs:List Int) (aR:Option Addr) (nR cR:Nat) (rows:List Int) (aK:Option Addr) (nK cK:Nat) (cols:List Int) (aM:Option Addr) (nM cM:Nat) (names:List Int) (w:World)
  (h:IC w a nn cs) (L:Latin N cs) (hR:IC w aR nR rows) (PR:NumL N rows) (hK:IC w aK nK cols) (PK:NumL N cols) (hM:IC w aM nM names) (PM:NumL N names) :
  Calls Tryz.prog 87 #[.agg #[.int .i64 (N:Int),.int .i64 (N:Int),.slice a nn ca],.slice aR nR cR,.slice aK nK cK,.slice aM nM cM] w (GridR w (N:Int) nn (isoL 0 N rows cols names cs)):=by
 have h1:nR=N:=by rw[← hR.len];exact PR.len
 have h2:nK=N:=by rw[← hK.len];exact PK.len
 have h3:nM=N:=by rw[← hM.len];exact PM.len
 rw[h1] at hR ⊢
 rw[h2] at hK ⊢
 rw[h3] at hM ⊢
 exact riso_c N nn hnn a ca cs aR cR rows aK cK cols aM cM names w h L hR PR hK PK hM
theorem lforms_c (r C:Int) (a:Option Addr) (n c:Nat) (cs:List Int) (aR:Option Addr) (nR cR:Nat) (rows:List Int) (aK:Option Addr) (nK cK:Nat) (cols:List Int) (aM:Option Addr) (nM cM:Nat) (names:List Int) (p0 p1 p2:Int) (w:World)
  (h:IC w a n cs) (hcap:n≤c) (hR:IC w aR nR rows) (hK:IC w aK nK cols) (hM:IC w aM nM names) :
  Calls Tryz.prog 17 #[.agg #[.int .i64 r,.int .i64 C,.slice a n c],.agg #[.slice aR nR cR,.slice aK nK cK,.slice aM nM cM,.int .i64 p0,.int .i64 p1,.int .i64 p2]] w fun e w'=>e = .returned (.bool true)∧Below w.heap.size w w':=by
 by_cases g0:300<n
 ·exact lforms_g0 r C a n c aR nR cR aK nK cK aM nM cM p0 p1 p2 w g0
 by_cases g1:40<nR
 ·exact lforms_g1 r C a n c aR nR cR aK nK cK aM nM cM p0 p1 p2 w g0 g1
 by_cases g2:40<nK
 ·exact lforms_g2 r C a n c aR nR cR aK nK cK aM nM cM p0 p1 p2 w g0 g1 g2
 by_cases g3:40<nM
 ·exact lforms_g3 r C a n c aR nR cR aK nK cK aM nM cM p0 p1 p2 w g0 g1 g2 g3
 have HA:=fun W (hb:Below w.heap.size w W)=>rcheck_c r C a n c cs W (h.mono hb)
 have H1:=fun W (hb:Below w.heap.size w W)=>reduce_c r C a n c cs W (h.mono hb) hcap
 have H2:=fun W (hb:Below w.heap.size w W)=>isot_c r C a n c cs aR nR cR rows aK nK cK cols aM nM cM names W (h.mono hb) (hR.mono hb) (hK.mono hb) (hM.mono hb)
 have H3:=fun W (hb:Below w.heap.size w W)=>conj_c r C a n c cs p0 p1 p2 W (h.mono hb)
 by_cases e0:sqE 0 r C cs=0
 case neg =>
  have f2:ioF r C cs rows cols names=sqE 0 r C cs:=firstL_ne e0
  have f3:cjF r C cs p0 p1 p2=sqE 0 r C cs:=firstL_ne e0
  have l1:redL r C cs=[]:=if_neg e0
  have l2:ioL r C cs rows cols names=[]:=if_neg (by rw[f2];exact e0)
  have l3:cjL r C cs p0 p1 p2=[]:=if_neg (by rw[f3];exact e0)
  rw[if_neg e0,l1] at H1
  rw[f2,if_neg e0,l2] at H2
  rw[f3,if_neg e0,l3] at H3
  exact lforms_bad r C a n c aR nR cR aK nK cK aM nM cM p0 p1 p2 w g0 g1 g2 g3 _ e0 0 0 0 0 0 0 [] [] [] _ _ _ (made_bad e0) (made_bad e0) (made_bad e0) HA
   (fun W hb=>(H1 W hb).mono fun e w' hg=>ge_of hg (by decide)) (fun W hb=>(H2 W hb).mono fun e w' hg=>ge_of hg (by decide)) (fun W hb=>(H3 W hb).mono fun e w' hg=>ge_of hg (by decide))
 rw[e0] at HA
 rw[e0,if_pos rfl] at H1
 obtain ⟨N,rfl,rfl,L⟩:=sqE_ok e0
 have hN1:=L.pos
 have hN2:=L.le
 have hn:n=N*N:=by rw[← h.len];exact L.len
 have hmm:N*N≤16*16:=Nat.mul_le_mul hN2 hN2
 have l1:redL (N:Int) (N:Int) cs=reduL (-1) N cs:=if_pos e0
 rw[l1,reduL_any L (-1) 0] at H1
 have len1:(reduL 0 N cs).length≤1000:=by unfold reduL;rw[iso_len];omega
 have H1':=fun W (hb:Below w.heap.size w W)=>(H1 W hb).mono fun e w' hg=>ge_of hg len1
 have HR1:=fun W (hb:Below w.heap.size w W)=>(rreduce_c N n hn a c cs W (h.mono hb) hcap L).mono fun e w' hg=>gr_of hg (by omega)
 have f2:ioF (N:Int) (N:Int) cs rows cols names=(if (if cpE rows (N:Int)=0 then cpE cols (N:Int) else cpE rows (N:Int))=0 then cpE names (N:Int) else (if cpE rows (N:Int)=0 then cpE cols (N:Int) else cpE rows (N:Int))):=by unfold ioF;rw[e0];exact first3 _ _ _
 have f3:cjF (N:Int) (N:Int) cs p0 p1 p2=cpE [p0,p1,p2] 3:=by unfold cjF;rw[e0];exact first1 _
 have P0:=fun W (hb:Below w.heap.size w W)=>rckperm_c aR nR cR rows (N:Int) W (hR.mono hb)
 have P1:=fun W (hb:Below w.heap.size w W)=>rckperm_c aK nK cK cols (N:Int) W (hK.mono hb)
 have P2:=fun W (hb:Below w.heap.size w W)=>rckperm_c aM nM cM names (N:Int) W (hM.mono hb)
 have P3:=fun W b (hi:IC W (some ⟨b,3,none⟩) 3 [p0,p1,p2])=>rckperm_c (some ⟨b,3,none⟩) 3 3 [p0,p1,p2] 3 W hi
 obtain ⟨t2,ht2⟩:∃t2,t2=(if cpE rows (N:Int)=0 then cpE cols (N:Int) else cpE rows (N:Int)):=⟨_,rfl⟩
 rw[← ht2] at f2
 obtain ⟨t3,ht3⟩:∃t3,t3=(if t2=0 then cpE names (N:Int) else t2):=⟨_,rfl⟩
 rw[← ht3] at f2
 have Q1:cpE rows (N:Int)=0→∀W,Below w.heap.size w W→Calls Tryz.prog 86 #[.slice aK nK cK,.int .i64 (N:Int)] W fun e w'=>e = .returned (.int .i64 t2)∧Below W.heap.size W w':=fun hz=>by rw[ht2,if_pos hz];exact P1
 have Q2:t2=0→∀W,Below w.heap.size w W→Calls Tryz.prog 86 #[.slice aM nM cM,.int .i64 (N:Int)] W fun e w'=>e = .returned (.int .i64 t3)∧Below W.heap.size W w':=fun hz=>by rw[ht3,if_pos hz];exact P2
 have S2:cpE rows (N:Int)≠0→t2=cpE rows (N:Int):=fun hz=>by rw[ht2,if_neg hz]
 have S3:t2≠0→t3=t2:=fun hz=>by rw[ht3,if_neg hz]
 rw[f2] at H2
 rw[f3] at H3
 by_cases h3:t3=0
 ·have z2:t2=0:=by
   by_cases e:t2=0
   ·exact e
   ·rw[S3 e] at h3;exact h3
  have z1:cpE rows (N:Int)=0:=by
   by_cases e:cpE rows (N:Int)=0
   ·exact e
   ·rw[S2 e] at z2;exact z2
  have z1':cpE cols (N:Int)=0:=by rw[ht2,if_pos z1] at z2;exact z2
  have z3:cpE names (N:Int)=0:=by rw[ht3,if_pos z2] at h3;exact h3
  have l2:ioL (N:Int) (N:Int) cs rows cols names=isoL 0 N rows cols names cs:=by
   rw[iso_any (y := -1) (perm_l z1) (perm_l z1')]
   exact if_pos (by rw[f2];exact h3)
  rw[if_pos h3,l2] at H2
  have len2:(isoL 0 N rows cols names cs).length≤1000:=by rw[iso_len];omega
  have H2':=fun W (hb:Below w.heap.size w W)=>(H2 W hb).mono fun e w' hg=>ge_of hg len2
  have n1:=cpE_ok z1
  have n2:=cpE_ok z1'
  have n3:=cpE_ok z3
  have HR2:=fun W (hb:Below w.heap.size w W)=>(riso_n N n hn a c cs aR nR cR rows aK nK cK cols aM nM cM names W (h.mono hb) L (hR.mono hb) n1 (hK.mono hb) n2 (hM.mono hb) n3).mono fun e w' hg=>gr_of hg (by omega)
  have m2:madeB (N:Int) (N:Int) (isoL 0 N rows cols names cs) t3 (N:Int) (N:Int) (isoL 0 N rows cols names cs) t3=true:=by rw[h3];exact made_eq _ _
  by_cases h4:cpE [p0,p1,p2] 3=0
  ·obtain ⟨q0,q1,q2,rfl,rfl,rfl,hp3⟩:=cp3_ok h4
   have l3:cjL (N:Int) (N:Int) cs (q0:Int) (q1:Int) (q2:Int)=conL 0 N q0 q1 q2 cs:=by
    rw[conL_any L hp3 0 (-1)]
    unfold cjL
    rw[if_pos (by rw[f3];exact h4),Int.toNat_natCast,Int.toNat_natCast,Int.toNat_natCast,Int.toNat_natCast]
   rw[if_pos h4,l3] at H3
   have len3:(conL 0 N q0 q1 q2 cs).length≤1000:=by unfold conL;rw[conG_len];omega
   have H3':=fun W (hb:Below w.heap.size w W)=>(H3 W hb).mono fun e w' hg=>ge_of hg len3
   have HR3:=fun W (hb:Below w.heap.size w W)=>(rconj_c N n hn a c cs q0 q1 q2 ⟨hp3.1,hp3.2.1,hp3.2.2.1⟩ W (h.mono hb) L).mono fun e w' hg=>gr_of hg (by omega)
   have m3:madeB (N:Int) (N:Int) (conL 0 N q0 q1 q2 cs) (cpE [(q0:Int),(q1:Int),(q2:Int)] 3) (N:Int) (N:Int) (conL 0 N q0 q1 q2 cs) (cpE [(q0:Int),(q1:Int),(q2:Int)] 3)=true:=by rw[h4];exact made_eq _ _
   exact lforms_uv (N:Int) (N:Int) a n c aR nR cR aK nK cK aM nM cM (q0:Int) (q1:Int) (q2:Int) w g0 g1 g2 g3 _ _ _ _ _ _ _ _ _ _ _ _ _ _ _ _ S2 S3 n _ (made_eq _ _) n _ h3 n _ h4 m2 m3 HA H1' H2' H3' P0 Q1 Q2 P3 HR1 HR2 HR3
  ·have l3:cjL (N:Int) (N:Int) cs p0 p1 p2=[]:=if_neg (by rw[f3];exact h4)
   rw[if_neg h4,l3] at H3
   have H3':=fun W (hb:Below w.heap.size w W)=>(H3 W hb).mono fun e w' hg=>ge_of hg (by decide)
   exact lforms_un (N:Int) (N:Int) a n c aR nR cR aK nK cK aM nM cM p0 p1 p2 w g0 g1 g2 g3 _ _ _ _ _ _ _ _ _ _ _ _ _ _ _ _ S2 S3 n _ (made_eq _ _) n _ h3 h4 m2 (made_bad h4) HA H1' H2' H3' P0 Q1 Q2 P3 HR1 HR2
 ·have l2:ioL (N:Int) (N:Int) cs rows cols names=[]:=if_neg (by rw[f2];exact h3)
  rw[if_neg h3,l2] at H2
  have H2':=fun W (hb:Below w.heap.size w W)=>(H2 W hb).mono fun e w' hg=>ge_of hg (by decide)
  by_cases h4:cpE [p0,p1,p2] 3=0
  ·obtain ⟨q0,q1,q2,rfl,rfl,rfl,hp3⟩:=cp3_ok h4
   have l3:cjL (N:Int) (N:Int) cs (q0:Int) (q1:Int) (q2:Int)=conL 0 N q0 q1 q2 cs:=by
    rw[conL_any L hp3 0 (-1)]
    unfold cjL
    rw[if_pos (by rw[f3];exact h4),Int.toNat_natCast,Int.toNat_natCast,Int.toNat_natCast,Int.toNat_natCast]
   rw[if_pos h4,l3] at H3
   have len3:(conL 0 N q0 q1 q2 cs).length≤1000:=by unfold conL;rw[conG_len];omega
   have H3':=fun W (hb:Below w.heap.size w W)=>(H3 W hb).mono fun e w' hg=>ge_of hg len3
   have HR3:=fun W (hb:Below w.heap.size w W)=>(rconj_c N n hn a c cs q0 q1 q2 ⟨hp3.1,hp3.2.1,hp3.2.2.1⟩ W (h.mono hb) L).mono fun e w' hg=>gr_of hg (by omega)
   have m3:madeB (N:Int) (N:Int) (conL 0 N q0 q1 q2 cs) (cpE [(q0:Int),(q1:Int),(q2:Int)] 3) (N:Int) (N:Int) (conL 0 N q0 q1 q2 cs) (cpE [(q0:Int),(q1:Int),(q2:Int)] 3)=true:=by rw[h4];exact made_eq _ _
   exact lforms_nv (N:Int) (N:Int) a n c aR nR cR aK nK cK aM nM cM (q0:Int) (q1:Int) (q2:Int) w g0 g1 g2 g3 _ _ _ _ _ _ _ _ _ _ _ _ _ _ _ _ S2 S3 n _ (made_eq _ _) h3 n _ h4 (made_bad h3) m3 HA H1' H2' H3' P0 Q1 Q2 P3 HR1 HR3
  ·have l3:cjL (N:Int) (N:Int) cs p0 p1 p2=[]:=if_neg (by rw[f3];exact h4)
   rw[if_neg h4,l3] at H3
   have H3':=fun W (hb:Below w.heap.size w W)=>(H3 W hb).mono fun e w' hg=>ge_of hg (by decide)
   exact lforms_nn (N:Int) (N:Int) a n c aR nR cR aK nK cK aM nM cM p0 p1 p2 w g0 g1 g2 g3 _ _ _ _ _ _ _ _ _ _ _ _ _ _ _ _ S2 S3 n _ (made_eq _ _) h3 h4 (made_bad h3) (made_bad h4) HA H1' H2' H3' P0 Q1 Q2 P3 HR1
end
section
open Go Go.RowKit Go.ChangeShapes Go.WideShapes
theorem O6.cellsM:Tryz.prog.cellsOf 98=6:=by kernel_rfl
theorem O6.cells96:Tryz.prog.cellsOf 96=3:=by kernel_rfl
theorem O6.array6 {α:Type} {cs:Array α} (h:cs.size=6):∃c0 c1 c2 c3 c4 c5,cs=#[c0,c1,c2,c3,c4,c5]:=by
 obtain ⟨l⟩:=cs
 match l,h with
 | [c0,c1,c2,c3,c4,c5],_=>exact ⟨c0,c1,c2,c3,c4,c5,rfl⟩
section
variable {H:Type} {enc:TypeId × Value→H} {w:World} {held:Bool}
theorem open_moves {base:Nat} {v:Value} {d:DataW H} {p:List MemPlace} (hv:Value.okWide Tryz.prog w .any base 98 v) (h:DataW.Trod enc Tryz.prog w 0 (fun _=>true) held 98 v d p) (hz:∀n∈d.weights Tryz.prog 98,n≤reachBytes) :
  ∃(aR:Option Addr) (nR cR:Nat) (XR:List Int) (aK:Option Addr) (nK cK:Nat) (XK:List Int) (aM:Option Addr) (nM cM:Nat) (XM:List Int) (p0 p1 p2:Int),v = .agg #[.slice aR nR cR,.slice aK nK cK,.slice aM nM cM,.int .i64 p0,.int .i64 p1,.int .i64 p2]∧IC w aR nR XR∧IC w aK nK XK∧IC w aM nM XM:=by
 obtain ⟨cs,rfl,hsz⟩:=okWide_struct Tryz.underlying98 hv
 obtain ⟨c0,c1,c2,c3,c4,c5,rfl⟩:=O6.array6 (hsz.trans O6.cellsM)
 obtain ⟨fuel,hf⟩:=h
 obtain ⟨y0,y1,y2,y3,m,hx,_,h0,h1,h2,h3⟩:=Go.Joins.trod_struct4 Tryz.underlying98 hf
 have h0':DataW.trod enc Tryz.prog w 0 (fun _=>true) held m 22 [c0]=some y0:=by simpa [Value.cells,O1.cells25] using h0
 have h1':DataW.trod enc Tryz.prog w 0 (fun _=>true) held m 22 [c1]=some y1:=by simpa [Value.cells,O1.cells25] using h1
 have h2':DataW.trod enc Tryz.prog w 0 (fun _=>true) held m 22 [c2]=some y2:=by simpa [Value.cells,O1.cells25] using h2
 have h3':DataW.trod enc Tryz.prog w 0 (fun _=>true) held m 96 [c3,c4,c5]=some y3:=by simpa [Value.cells,O6.cells96] using h3
 obtain ⟨z0,z1,z2,m2,_,g0,g1,g2⟩:=trod_array3 Tryz.underlying96 O1.cells3 h3'
 simp only[Prod.mk.injEq] at hx
 obtain ⟨rfl,rfl⟩:=hx
 have hw0:∀n,n∈y0.1.weights Tryz.prog 22→n≤reachBytes:=by
  intro n hn
  refine hz n ?_
  simp only[DataW.weights,Tryz.underlying98,List.map_cons,List.map_nil,DataW.weightsEach,List.mem_append]
  exact .inl hn
 have hw1:∀n,n∈y1.1.weights Tryz.prog 22→n≤reachBytes:=by
  intro n hn
  refine hz n ?_
  simp only[DataW.weights,Tryz.underlying98,List.map_cons,List.map_nil,DataW.weightsEach,List.mem_append]
  exact .inr (.inl hn)
 have hw2:∀n,n∈y2.1.weights Tryz.prog 22→n≤reachBytes:=by
  intro n hn
  refine hz n ?_
  simp only[DataW.weights,Tryz.underlying98,List.map_cons,List.map_nil,DataW.weightsEach,List.mem_append]
  exact .inr (.inr (.inl hn))
 obtain ⟨a0,n0,k0,P0,rfl,_,hP0⟩:=O1.ints h0' hw0
 obtain ⟨a1,n1,k1,P1,rfl,_,hP1⟩:=O1.ints h1' hw1
 obtain ⟨a2,n2,k2,P2,rfl,_,hP2⟩:=O1.ints h2' hw2
 obtain ⟨p0,e0,_,_⟩:=DataW.trod_int Tryz.underlying3 g0
 obtain ⟨p1,e1,_,_⟩:=DataW.trod_int Tryz.underlying3 g1
 obtain ⟨p2,e2,_,_⟩:=DataW.trod_int Tryz.underlying3 g2
 simp only[List.cons.injEq,and_true] at e0 e1 e2
 exact ⟨a0,n0,k0,P0,a1,n1,k1,P1,a2,n2,k2,P2,p0,p1,p2,by rw[e0,e1,e2],hP0,hP1,hP2⟩
end
end
end Go.Proofs.YtmfpdakaeagdpaaGreat
