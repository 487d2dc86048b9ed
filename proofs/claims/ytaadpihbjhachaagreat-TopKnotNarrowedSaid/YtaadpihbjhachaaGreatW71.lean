/- Texts B14 to B14 of this proof, in one file. -/
import Derived.Test.YtaadpihbjhachaaGreatW07
import Derived.Test.YtaadpihbjhachaaGreatW27
import Derived.Test.YtaadpihbjhachaaGreatW28
import Derived.Test.YtaadpihbjhachaaGreatW31
import Derived.Test.YtaadpihbjhachaaGreatW62
import Derived.Test.YtaadpihbjhachaaGreatW63
namespace Go.Proofs.YtaadpihbjhachaaGreat
set_option maxRecDepth 100000
set_option maxHeartbeats 16000000
section
open Go Go.RowKit
theorem small_zero {cells:Int} {ls:List (List Int)} {sum:Int} {g:List Int} (h:taskErr cells ls sum g=0) (ho:(openL g).length≤16):smallErr cells ls sum g=0:=by
 unfold smallErr
 rw[h,if_neg (by decide),decide_eq_false (by omega)]
 rfl
theorem count_ok {cells:Int} {ls:List (List Int)} {sum:Int} {g:List Int} (h:taskErr cells ls sum g=0) (ho:(openL g).length≤7):countE cells ls sum g=0∧countN cells ls sum g=((solsL ls sum g []).length:Int)∧(solsL ls sum g []).length≤5040:=by
 have h1:=small_zero h (by omega)
 have h2:=sols_count (goodTask h) ho
 refine ⟨?_,?_,h2⟩
 ·unfold countE
  rw[h1,if_neg (by decide),if_neg (by omega)]
 ·unfold countN
  rw[h1,if_neg (by decide),if_neg (by omega)]
theorem cand_in {cells:Int} {ls:List (List Int)} {sum:Int} {g f:List Int} (G:GoodTask cells ls sum g) (hf:f∈solsL ls sum g []) (j:Nat) {i:Nat} (hi:i<g.length):f[i]?.getD 0∈(candL (allM g.length) (iterR ls sum (allM g.length) j (begL g)).2)[i]?.getD []:=by
 have hs:SolF ls sum g f:=(mem_sols G).1 hf
 have hbl:(begL g).length=g.length:=by simp[begL]
 have hg:=G.glen
 have hk:=keep_iter G hs (allM g.length) j (begL g) hbl (begL_holds hg (fun i hi=>(G.num i hi).1) hs) (by rw[hbl];exact begL_bound (fun i hi=>by have:=(G.num i hi).2;have:=G.len;omega))
 have hml:(iterR ls sum (allM g.length) j (begL g)).2.length=g.length:=by rw[iterR_len,hbl]
 rw[hbl] at hk
 have hc:=keep_contra hg hml hs hk.1 (by rw[hml];exact hk.2.1)
 generalize iterR ls sum (allM g.length) j (begL g)=R at *
 unfold candL
 rw[if_neg (by rw[hc];decide),List.getElem?_map,List.getElem?_eq_getElem (by omega)]
 show _∈elemsM _
 have h1:=hk.1.2 i (by rw[hs.len];exact hi)
 obtain ⟨h2,h3,h4,h5⟩:=h1
 rw[List.getElem?_eq_getElem (show i<R.2.length by omega),Option.getD_some] at h5
 exact elemsM_mem.2 ⟨h2,by omega,h5⟩
def sumC (ls:List (List Int)) (sum:Int) (g:List Int) (k:Nat) (C:List Int) (j:Nat):Nat:=((C.take j).map fun x=>(solsL ls sum (g.set k x) []).length).sum
structure NarF (cells:Int) (ls:List (List Int)) (sum:Int) (g:List Int) (k:Nat) (C:List Int):Prop where
 len:C.length≤256
 num:∀j,j<C.length→1≤C[j]?.getD 0∧C[j]?.getD 0≤(g.length:Int)
 asc:∀j,0<j→j<C.length→C[j - 1]?.getD 0<C[j]?.getD 0
 new:∀j i,j<C.length→i<g.length→g[i]?.getD 0≠C[j]?.getD 0
 err:∀j,j<C.length→taskErr cells ls sum (g.set k (C[j]?.getD 0))=0∧countE cells ls sum (g.set k (C[j]?.getD 0))=0
 step:∀j,j<C.length→(sumC ls sum g k C (j+1):Int)=(sumC ls sum g k C j:Int)+countN cells ls sum (g.set k (C[j]?.getD 0))∧0≤countN cells ls sum (g.set k (C[j]?.getD 0))∧countN cells ls sum (g.set k (C[j]?.getD 0))≤5040
 all:(sumC ls sum g k C C.length:Int)=countN cells ls sum g
 low:∀j,j≤C.length→sumC ls sum g k C j≤5040*256
theorem narF {cells:Int} {ls:List (List Int)} {sum:Int} {g:List Int} (G:GoodTask cells ls sum g) (hs:sysErr cells ls=0) (h6:(openL g).length≤6) {k:Nat} (hk:k<g.length) (h0:g[k]?.getD 0=0) (j:Nat)
  (hend:stepR ls sum (allM g.length) (iterR ls sum (allM g.length) j (begL g)).2=none) {C:List Int} (hC:(candL (allM g.length) (iterR ls sum (allM g.length) j (begL g)).2)[k]?.getD []=C):NarF cells ls sum g k C:=by
 have hF:=cand_f G hk h0 j hend
 have hin:∀f,f∈solsL ls sum g []→f[k]?.getD 0∈C:=fun f hf=>by rw[← hC];exact cand_in G hf j hk
 rw[hC] at hF
 have hlen:C.length≤256:=by
  have h1:=nodup_le hF.nodup (m:=unusedL g) hF.mem
  have h2:=unusedTo_len g g.length
  have h3:=G.glen
  unfold unusedL at h1
  omega
 have hu:∀j,j<C.length→C[j]?.getD 0∈unusedL g:=fun j hj=>hF.mem _ (get_mem hj)
 have hok:∀j,j<C.length→taskErr cells ls sum (g.set k (C[j]?.getD 0))=0∧countE cells ls sum (g.set k (C[j]?.getD 0))=0∧countN cells ls sum (g.set k (C[j]?.getD 0))=((solsL ls sum (g.set k (C[j]?.getD 0)) []).length:Int)∧(solsL ls sum (g.set k (C[j]?.getD 0)) []).length≤5040:=fun j hj=>by
  have h1:=taskErr_good (G.put hk (hu j hj)) hs
  have h2:=openL_set hk h0 (x:=C[j]?.getD 0) (by have:=(mem_unused.1 (hu j hj)).1;omega)
  exact ⟨h1,count_ok h1 (by omega)⟩
 have hstep:∀j,j<C.length→sumC ls sum g k C (j+1)=sumC ls sum g k C j+(solsL ls sum (g.set k (C[j]?.getD 0)) []).length:=fun j hj=>by
  unfold sumC
  rw[take_snoc C 0 j hj,List.map_append,List.sum_append]
  simp
 have hall:=cand_sum G hk h0 C hF hin
 have hc:=count_ok (taskErr_good G hs) (by omega)
 have hlow:∀j,j≤C.length→sumC ls sum g k C j≤5040*j:=by
  intro j
  induction j with
  | zero=>intro _;simp[sumC]
  | succ j ih =>
   intro hj
   have h1:=ih (by omega)
   have h2:=hstep j (by omega)
   have h3:=(hok j (by omega)).2.2.2
   omega
 refine ⟨hlen,fun j hj=>?_,fun j h1 h2=>pair_asc hF.asc j h1 h2,fun j i hj hi e=>?_,fun j hj=>⟨(hok j hj).1,(hok j hj).2.1⟩,fun j hj=>?_,?_,fun j hj=>by have:=hlow j hj;omega⟩
 ·have:=mem_unused.1 (hu j hj);omega
 ·have h1:=(mem_unused.1 (hu j hj)).2.2
  exact not_hasB h1 i hi e
 ·obtain ⟨_,_,h3,h4⟩:=hok j hj
  have h5:=hstep j hj
  rw[h3]
  omega
 ·rw[hc.2.1]
  unfold sumC
  rw[List.take_length,hall]
end
end Go.Proofs.YtaadpihbjhachaaGreat
