/- Texts J26 to J28 of this proof, in one file. -/
import Derived.Test.YtmfpdakaeagdpaaGreatW01
import Derived.Test.YtmfpdakaeagdpaaGreatW02
import Derived.Test.YtmfpdakaeagdpaaGreatW03
import Derived.Test.YtmfpdakaeagdpaaGreatW04
import Derived.Test.YtmfpdakaeagdpaaGreatW05
import Derived.Below
import Derived.BigFrame
import Derived.BigQuiet
import Derived.Deep.CutBlock
import Derived.Deep.CutRange
import Derived.Deep.LoopGhost
import Derived.Deep.Quiet
import Derived.Deep.RegionHeld3
import Derived.DeepKeys4
import Derived.KernelRfl
import Derived.Laws.BitsAllLaws
import Derived.Lib.Hide
import Derived.Lib.SliceRun
import Derived.LoopIn
import Derived.LoopNIn
import Derived.Maps.AppendAt
import Derived.Maps.OwnIn
import Derived.Maps.OwnSet
import Derived.OneCell
import Derived.OrdersHeld
import Derived.OwnWalkIn
import Derived.RangeFuncBound
import Derived.RangeFuncCalls
import Derived.RangeFuncLeaves
import Derived.RangeFuncNested
import Derived.Shelf.Abstract
import Derived.Still
import Derived.TacticsInMore
import Derived.Test.YtmfpdakaeagdpaaGreatProg
import Derived.WalkKit
import Derived.WalkLawsBesides
import Derived.WalkSpells
import Derived.WideKeyPair
namespace Go.Proofs.YtmfpdakaeagdpaaGreat
set_option maxRecDepth 100000
set_option maxHeartbeats 16000000
section
open Go Go.RowKit
attribute [local go_sem] over_cell
attribute [local go_sem] Oper.semAt_some
def GridE (w:World) (r C:Int) (cs:List Int) (er:Int) (e:Ending) (w':World):Prop :=
 ∃a c,e = .returned (.tuple #[.agg #[.int .i64 r,.int .i64 C,.slice a cs.length c],.int .i64 er])∧w'.ownsRow w.heap.size 3 1 (.slice a cs.length c) cs.length (cs.map (Value.int .i64))∧Below w.heap.size w w'
def GridM (w:World) (r C:Int) (cs:List Int) (e:Ending) (w':World):Prop :=
 ∃a c,e = .returned (.agg #[.int .i64 r,.int .i64 C,.slice a cs.length c])∧w'.ownsRow w.heap.size 3 1 (.slice a cs.length c) cs.length (cs.map (Value.int .i64))∧Below w.heap.size w w'
section
variable {W:World} {b:Nat} {u0 u1 u2 x0 x1 x2:Value} {T:TypeId}
theorem st3_q (q:W.heap[b]?=some (.cells #[u0,u1,u2] T (0,0))):(((W.setCell ⟨b,0,none⟩ x0).setCell ⟨b,1,none⟩ x1).setCell ⟨b,2,none⟩ x2).heap[b]?=some (.cells #[x0,x1,x2] T (0,0)):=q_set (i:=2) (q_set (i:=1) (q_set (i:=0) q x0) x1) x2
theorem st3_own {B n:Nat} {e:TypeId} {v:Value} {xs:List Value} (h:W.ownsRow B e 1 v n xs) (hb:v.ownBlock≠some b):(((W.setCell ⟨b,0,none⟩ x0).setCell ⟨b,1,none⟩ x1).setCell ⟨b,2,none⟩ x2).ownsRow B e 1 v n xs :=
 ownsRow_setCell_other (ownsRow_setCell_other (ownsRow_setCell_other h (a:=⟨b,0,none⟩) hb x0) (a:=⟨b,1,none⟩) hb x1) (a:=⟨b,2,none⟩) hb x2
theorem st3_below {B:Nat} {w:World} (h:Below B w W) (hb:B≤b):Below B w (((W.setCell ⟨b,0,none⟩ x0).setCell ⟨b,1,none⟩ x1).setCell ⟨b,2,none⟩ x2) :=
 ((h.setCell (p:=⟨b,0,none⟩) hb x0).setCell (p:=⟨b,1,none⟩) hb x1).setCell (p:=⟨b,2,none⟩) hb x2
end
theorem c1_of {w:World} {b:Nat} {v0:Value} {T:TypeId} (h:w.heap[b]?=some (.cells #[v0] T (0,0))):w.cell? ⟨b,0,none⟩=some v0∧w.frozen? ⟨b,0,none⟩=false∧b<w.heap.size:=⟨q_cell h 0,q_free h 0,q_lt h⟩
theorem f3_of {w:World} {b:Nat} {v0 v1 v2:Value} {T:TypeId} (h:w.heap[b]?=some (.cells #[v0,v1,v2] T (0,0))):w.frozen? ⟨b,0,none⟩=false∧w.frozen? ⟨b,1,none⟩=false∧w.frozen? ⟨b,2,none⟩=false:=⟨q_free h 0,q_free h 1,q_free h 2⟩
theorem made_g (N:Nat) (hN:N≤256) (fk:Nat) (fst caps:Array Value) (s:Nat→Nat→Int) (cs:List Int) (w:World) (hcs:cs=madeTo N s (N*N))
  (hcf:∀args w,Sem.run Tryz.prog (callFunc fk args) w = .ok (.enter fk args) w)
  (hs:∀i j:Nat,i<N→j<N→∀W,Below w.heap.size w W→Calls Tryz.prog fk (fst++(#[.int .i64 (i:Int),.int .i64 (j:Int)]++caps)) W (fun e w'=>e = .returned (.int .i64 (s i j))∧Below W.heap.size W w')) :
  Calls Tryz.prog 94 #[.int .i64 (N:Int),.func (.func fk) fst caps] w (GridM w (N:Int) (N:Int) cs):=by
 refine (made_c N hN fk fst caps s w hcf hs).mono ?_
 rintro e w' ⟨v,rfl,hown,hb⟩
 obtain ⟨a,c,rfl⟩:=owns_shape hown
 have hl:cs.length=N*N:=by rw[hcs,madeTo_len]
 refine ⟨a,c,by rw[hl],?_,hb⟩
 rw[hl,hcs];exact hown
theorem ordE_ok {n:Int} (h:ordE n=0):∃N:Nat,n=(N:Int)∧1≤N∧N≤16:=by
 unfold ordE whenV at h
 cases hb:(decide (1≤n)&&decide (n≤16)) with
 | false=>rw[hb] at h;exact absurd h (by decide)
 | true =>
  simp only[Bool.and_eq_true,decide_eq_true_eq] at hb
  exact ⟨n.toNat,by omega,by omega,by omega⟩
theorem enterCyc:∀args w,Sem.run Tryz.prog (callFunc 126 args) w = .ok (.enter 126 args) w:=by
 intro args w;kernel_rfl
theorem cyc1_c (N i j b:Nat) (w:World) (hN1:1≤N) (hN:N≤16) (hi:i<N) (hj:j<N) (hq:w.heap[b]?=some (.cells #[.int .i64 (N:Int)] 3 (0,0))) :
  Calls Tryz.prog 126 #[.int .i64 (i:Int),.int .i64 (j:Int),.pointer (some ⟨b,0,none⟩)] w fun e w'=>e = .returned (.int .i64 (((i:Int)+(j:Int)) % (N:Int)))∧Below w.heap.size w w':=by
 have c0:=q_cell hq 0
 have hl:=q_lt hq
 have hne:(N:Int)≠0:=by omega
 go_enter Tryz.func126,Tryz.ntmps126
 go_wp2
 go_ret
 exact ⟨rfl,Below.refl _ _⟩
-- a zero grid and an error come back;the result's box is bR
-- the arm of a call that makes a grid: its box holds zeros
def cycS (N i j:Nat):Int:=((i:Int)+(j:Int)) % (N:Int)
def cycL (n:Int):List Int:=if ordE n=0 then madeTo n.toNat (cycS n.toNat) (n.toNat*n.toNat) else []
theorem cyclic_c (n:Int) (w:World):Calls Tryz.prog 54 #[.int .i64 n] w (GridE w (if ordE n=0 then n else 0) (if ordE n=0 then n else 0) (cycL n) (ordE n)):=by
 have HO:=Lib.hid (fun W=>corder_c n W)
 by_cases h0:ordE n=0
 ·have hcl:cycL n=madeTo n.toNat (cycS n.toNat) (n.toNat*n.toNat):=if_pos h0
  rw[if_pos h0,h0]
  rw[h0] at HO
  obtain ⟨N,rfl,hN1,hN2⟩:=ordE_ok h0
  rw[show ((N:Int)).toNat=N from rfl] at hcl
  generalize cycL (N:Int)=cs at hcl ⊢
  clear h0
  go_enter Tryz.func54,Tryz.ntmps54
  go_wp2_with fail
  have fsz:((w.alloc (.cells #[.int .i64 (N:Int)] 3)).alloc (.cells #[.int .i64 0,.int .i64 0,.slice none 0 0] 24)).heap.size=w.heap.size+2:=by simp only[World.size_alloc] <;> omega
  have fB:Below w.heap.size w ((w.alloc (.cells #[.int .i64 (N:Int)] 3)).alloc (.cells #[.int .i64 0,.int .i64 0,.slice none 0 0] 24)):=((Below.refl _ _).alloc (Nat.le_refl _) _).alloc (by simp only[World.size_alloc];omega) _
  have fq0:((w.alloc (.cells #[.int .i64 (N:Int)] 3)).alloc (.cells #[.int .i64 0,.int .i64 0,.slice none 0 0] 24)).heap[w.heap.size]?=some (.cells #[.int .i64 (N:Int)] 3 (0,0)):=by have h:=World.alloc_heap_new w (.cells #[.int .i64 (N:Int)] 3);exact (Below.heap_alloc _ _ _ (by simp only[World.size_alloc];omega)).trans (h)
  have fq1:((w.alloc (.cells #[.int .i64 (N:Int)] 3)).alloc (.cells #[.int .i64 0,.int .i64 0,.slice none 0 0] 24)).heap[w.heap.size+1]?=some (.cells #[.int .i64 0,.int .i64 0,.slice none 0 0] 24 (0,0)):=by have h:=World.alloc_heap_new (w.alloc (.cells #[.int .i64 (N:Int)] 3)) (.cells #[.int .i64 0,.int .i64 0,.slice none 0 0] 24);simp only[World.size_alloc] at h;exact h
  generalize ((w.alloc (.cells #[.int .i64 (N:Int)] 3)).alloc (.cells #[.int .i64 0,.int .i64 0,.slice none 0 0] 24))=W0 at fsz fB fq0 fq1 ⊢
  obtain ⟨x0,xf,xl⟩:=c1_of fq0
  have HM:=Lib.hid (made_g N (by omega) 126 #[] #[.pointer (some ⟨w.heap.size,0,none⟩)] (cycS N) cs W0 hcl enterCyc (fun i j hi hj W hb=>cyc1_c N i j w.heap.size W hN1 hN2 hi hj (keepq hb fq0)))
  have HQ1:=Lib.hid fq1
  have hl1:=q_lt fq1
  clear fsz fq1 fq0 hcl
  go_wp2_with (first|(go_at_call 125;refine (HO.out _).mono ?_;rintro _ w1 ⟨rfl,rfl⟩)|(go_at_call 94;refine HM.out.mono ?_;rintro _ w2 ⟨a2,c2,rfl,hown2,hb2⟩;have g1:=keepq hb2 HQ1.out;obtain ⟨y0,y1,y2,yl⟩:=c3_of g1;obtain ⟨yf0,yf1,yf2⟩:=f3_of g1))
  have hne:(Value.slice a2 (cs).length c2).ownBlock≠some (w.heap.size+1):=fun e=>absurd (hown2.lt _ e).1 (by omega)
  have g3:=st3_q (x0 := .int .i64 (N:Int)) (x1 := .int .i64 (N:Int)) (x2 := .slice a2 (cs).length c2) g1
  have hown3:=st3_own (x0 := .int .i64 (N:Int)) (x1 := .int .i64 (N:Int)) (x2 := .slice a2 (cs).length c2) hown2 hne
  have hb3:=st3_below (x0 := .int .i64 (N:Int)) (x1 := .int .i64 (N:Int)) (x2 := .slice a2 (cs).length c2) (b:=w.heap.size+1) (keep_trans fB hb2) (by omega)
  obtain ⟨z0,z1,z2,zl⟩:=c3_of g3
  refine bodyPost_ret (v := .tuple #[.agg #[.int .i64 (N:Int),.int .i64 (N:Int),.slice a2 (cs).length c2],.int .i64 0]) ?_ rfl ⟨_,_,rfl,owns_base hown3 fB.size,hb3⟩
  simp[results,Tryz.f54,go_sem,z0,z1,z2]
 ·have hcl:cycL n=[]:=if_neg h0
  rw[if_neg h0,hcl]
  have h0':(ordE n != 0)=true:=by simpa using h0
  generalize ordE n=er at HO h0' ⊢
  clear h0 hcl
  go_enter Tryz.func54,Tryz.ntmps54
  go_wp2_with fail
  have fsz:((w.alloc (.cells #[.int .i64 n] 3)).alloc (.cells #[.int .i64 0,.int .i64 0,.slice none 0 0] 24)).heap.size=w.heap.size+2:=by simp only[World.size_alloc] <;> omega
  have fB:Below w.heap.size w ((w.alloc (.cells #[.int .i64 n] 3)).alloc (.cells #[.int .i64 0,.int .i64 0,.slice none 0 0] 24)):=((Below.refl _ _).alloc (Nat.le_refl _) _).alloc (by simp only[World.size_alloc];omega) _
  have fq0:((w.alloc (.cells #[.int .i64 n] 3)).alloc (.cells #[.int .i64 0,.int .i64 0,.slice none 0 0] 24)).heap[w.heap.size]?=some (.cells #[.int .i64 n] 3 (0,0)):=by have h:=World.alloc_heap_new w (.cells #[.int .i64 n] 3);exact (Below.heap_alloc _ _ _ (by simp only[World.size_alloc];omega)).trans (h)
  have fq1:((w.alloc (.cells #[.int .i64 n] 3)).alloc (.cells #[.int .i64 0,.int .i64 0,.slice none 0 0] 24)).heap[w.heap.size+1]?=some (.cells #[.int .i64 0,.int .i64 0,.slice none 0 0] 24 (0,0)):=by have h:=World.alloc_heap_new (w.alloc (.cells #[.int .i64 n] 3)) (.cells #[.int .i64 0,.int .i64 0,.slice none 0 0] 24);simp only[World.size_alloc] at h;exact h
  generalize ((w.alloc (.cells #[.int .i64 n] 3)).alloc (.cells #[.int .i64 0,.int .i64 0,.slice none 0 0] 24))=W0 at fsz fB fq0 fq1 ⊢
  obtain ⟨x0,xf,xl⟩:=c1_of fq0
  obtain ⟨y0,y1,y2,yl⟩:=c3_of fq1
  obtain ⟨yf0,yf1,yf2⟩:=f3_of fq1
  go_wp2_with (first|(go_at_call 125;refine (HO.out _).mono ?_;rintro _ w1 ⟨rfl,rfl⟩))
  have g3:=st3_q (x0 := .int .i64 0) (x1 := .int .i64 0) (x2 := .slice none 0 0) fq1
  have hb3:=st3_below (x0 := .int .i64 0) (x1 := .int .i64 0) (x2 := .slice none 0 0) (b:=w.heap.size+1) fB (by omega)
  obtain ⟨z0,z1,z2,zl⟩:=c3_of g3
  refine bodyPost_ret (v := .tuple #[.agg #[.int .i64 0,.int .i64 0,.slice none 0 0],.int .i64 (er)]) ?_ rfl ⟨none,0,rfl,World.ownsRow_nil _ _ _ _,hb3⟩
  simp[results,Tryz.f54,go_sem,z0,z1,z2]
end
section
open Go Go.RowKit
attribute [local go_sem] over_cell
attribute [local go_sem] Oper.semAt_some
structure Sq (n:Nat) (cs:List Int):Prop where
 n1:1≤n
 n2:n≤16
 len:cs.length=n*n
 num:∀k:Nat,0≤cs[k]?.getD 0∧cs[k]?.getD 0<(n:Int)
theorem Latin.sq {n:Nat} {cs:List Int} (L:Latin n cs):Sq n cs:=⟨L.pos,L.le,L.len,fun k=>by
 by_cases h:k<n*n
 ·exact L.get h
 ·rw[List.getElem?_eq_none (by rw[L.len];omega)]
  have:=L.pos
  exact ⟨Int.le_refl _,by show (0:Int)<n;omega⟩⟩
theorem half_mod {n D:Nat} (h1:1≤n) (h2:n≤16):((wrap64 ((wrap64 ((n:Int)*((n:Int) - 1))).tdiv 2)).tmod (D:Int)==0)=!decide ((((n*(n - 1) / 2:Nat):Int)) % (D:Int)≠0):=by
 have e:(n:Int)*((n:Int) - 1)=((n*(n - 1):Nat):Int):=by
  rw[Int.natCast_mul,Int.natCast_sub h1];rfl
 have hp:n*(n - 1)≤16*15:=Nat.mul_le_mul h2 (by omega)
 rw[e]
 generalize n*(n - 1)=p at hp ⊢
 have e2:wrap64 (p:Int)=(p:Int):=by unfold wrap64;omega
 have e3:(p:Int).tdiv 2=((p / 2:Nat):Int):=by rw[Int.tdiv_eq_ediv_of_nonneg (by omega)];omega
 have e4:wrap64 ((p / 2:Nat):Int)=((p / 2:Nat):Int):=by unfold wrap64;omega
 rw[e2,e3,e4,Int.tmod_eq_emod_of_nonneg (by omega)]
 generalize ((p / 2:Nat):Int) % (D:Int)=y
 by_cases h:y=0
 ·simp[h]
 ·simp[h]
def RefTo (n:Nat) (cs:List Int) (d:Int) (k:Nat):Prop:=∀j,j<k→delta n cs j % d=0
theorem lrefutes_c (n:Nat) (a:Option Addr) (m c:Nat) (cs:List Int) (d:Int) (w:World) (h:IC w a m cs) (S:Sq n cs) :
  Calls Tryz.prog 124 #[.agg #[.int .i64 (n:Int),.int .i64 (n:Int),.slice a m c],.int .i64 d] w fun e w'=>e = .returned (.bool (refuB n cs d))∧Below w.heap.size w w':=by
 have hm:=h.small
 have hn1:=S.n1
 have hn2:=S.n2
 have HL:=Lib.hid h.len
 by_cases h2:d<2
 ·have HE:Hid (refuB n cs d=false):=by unfold Hid refuB;rw[decide_eq_false (show ¬(2:Int)≤d by omega)];simp
  have hd:decide (d<2)=true:=decide_eq_true h2
  go_enter Tryz.func124,Tryz.ntmps124
  go_wp2_with fail
  have fB:Below w.heap.size w (w.alloc (.cells #[.int .i64 (n:Int),.int .i64 (n:Int),.slice a m c] 24)):=(Below.refl _ _).alloc (Nat.le_refl _) _
  have FQ:Hid ((w.alloc (.cells #[.int .i64 (n:Int),.int .i64 (n:Int),.slice a m c] 24)).heap[w.heap.size]?=some (.cells #[.int .i64 (n:Int),.int .i64 (n:Int),.slice a m c] 24 (0,0))):=World.alloc_heap_new _ _
  generalize (w.alloc (.cells #[.int .i64 (n:Int),.int .i64 (n:Int),.slice a m c] 24))=W0 at fB FQ ⊢
  obtain ⟨x0,x1,x2,xl⟩:=c3_of FQ.out
  go_wp2_with fail
  go_ret
  exact ⟨ret_bool HE.out.symm,fB⟩
 ·have hd:decide (d<2)=false:=decide_eq_false h2
  obtain ⟨D,rfl⟩:=Int.eq_ofNat_of_zero_le (show 0≤d by omega)
  have hne:(D:Int)≠0:=by omega
  by_cases h3:(n:Int) % (D:Int)=0
  ·have hd3:((n:Int) % (D:Int) != 0)=false:=by rw[h3];rfl
   have hT:=half_mod (D:=D) hn1 hn2
   by_cases h4:(((n*(n - 1) / 2:Nat):Int)) % (D:Int)=0
   ·rw[decide_eq_false (show ¬((((n*(n - 1) / 2:Nat):Int)) % (D:Int)≠0) from fun e=>e h4)] at hT
    have HE:Hid (refuB n cs (D:Int)=false):=by unfold Hid refuB;rw[decide_eq_false (show ¬((((n*(n - 1) / 2:Nat):Int)) % (D:Int)≠0) from fun e=>e h4)];simp
    clear h4
    go_enter Tryz.func124,Tryz.ntmps124
    go_wp2_with fail
    have fB:Below w.heap.size w (w.alloc (.cells #[.int .i64 (n:Int),.int .i64 (n:Int),.slice a m c] 24)):=(Below.refl _ _).alloc (Nat.le_refl _) _
    have FQ:Hid ((w.alloc (.cells #[.int .i64 (n:Int),.int .i64 (n:Int),.slice a m c] 24)).heap[w.heap.size]?=some (.cells #[.int .i64 (n:Int),.int .i64 (n:Int),.slice a m c] 24 (0,0))):=World.alloc_heap_new _ _
    generalize (w.alloc (.cells #[.int .i64 (n:Int),.int .i64 (n:Int),.slice a m c] 24))=W0 at fB FQ ⊢
    obtain ⟨x0,x1,x2,xl⟩:=c3_of FQ.out
    go_wp2_with fail
    go_ret
    exact ⟨ret_bool HE.out.symm,fB⟩
   ·rw[decide_eq_true (show ((((n*(n - 1) / 2:Nat):Int)) % (D:Int)≠0) from h4)] at hT
    have HE:Hid (refuB n cs (D:Int)=(List.range cs.length).all fun c=>decide (delta n cs c % (D:Int)=0)):=by
     unfold Hid refuB
     rw[decide_eq_true h3,decide_eq_true (show (2:Int)≤(D:Int) by omega),decide_eq_true (show ((((n*(n - 1) / 2:Nat):Int)) % (D:Int)≠0) from h4)]
     simp
    clear h4
    have h0:=Lib.hid h
    go_enter Tryz.func124,Tryz.ntmps124
    go_wp2_with fail
    have fB:Below w.heap.size w (w.alloc (.cells #[.int .i64 (n:Int),.int .i64 (n:Int),.slice a m c] 24)):=(Below.refl _ _).alloc (Nat.le_refl _) _
    have FQ:Hid ((w.alloc (.cells #[.int .i64 (n:Int),.int .i64 (n:Int),.slice a m c] 24)).heap[w.heap.size]?=some (.cells #[.int .i64 (n:Int),.int .i64 (n:Int),.slice a m c] 24 (0,0))):=World.alloc_heap_new _ _
    generalize (w.alloc (.cells #[.int .i64 (n:Int),.int .i64 (n:Int),.slice a m c] 24))=W0 at fB FQ ⊢
    obtain ⟨x0,x1,x2,xl⟩:=c3_of FQ.out
    replace h0:=Lib.hid (h0.out.mono fB)
    clear h
    go_wp2_with fail
    go_loopw [6,7,31] (fun _ _ s wr=>∃k:Nat,k≤m∧s = .int .i64 k∧Hid (RefTo n cs (D:Int) k)∧Below W0.heap.size W0 wr) (fun _ _ s _=>m - (intOf s).toNat)
    case atStart=>exact ⟨0,by omega,rfl,fun j hj=>absurd hj (by omega),Below.refl _ _⟩
    case round =>
     obtain ⟨k,hk,rfl,hr,hbr⟩:=hrel
     clear x0 x1 x2 xl hd3 hT
     by_cases hlt:k<m
     ·obtain ⟨b,off,rfl,hb,hc⟩:=(h0.out.mono hbr).2 k hlt
      have hki:(k:Int)<(m:Int):=by omega
      have hmq:m=n*n:=by rw[← HL.out,S.len]
      have hkn:k<n*n:=by omega
      have hmb:m≤256:=by rw[hmq];exact Nat.le_trans (Nat.mul_le_mul hn2 hn2) (by decide)
      obtain ⟨q,hq⟩:∃q,q=k / n:=⟨_,rfl⟩
      obtain ⟨r,hr2⟩:∃r,r=k % n:=⟨_,rfl⟩
      have hqb:q<n:=by rw[hq];exact Nat.div_lt_of_lt_mul hkn
      have hrb:r<n:=by rw[hr2];exact Nat.mod_lt _ (by omega)
      have hdv:wrap64 ((k:Int) / (n:Int))=(q:Int):=by rw[divw (by omega),hq]
      have hmv:(k:Int) % (n:Int)=(r:Int):=by rw[modw,hr2]
      have hx:=S.num k
      have HD:Hid (delta n cs k=(cs[k]?.getD 0 - (q:Int) - (r:Int)) % (n:Int)):=by unfold Hid delta;rw[hq,hr2]
      obtain ⟨x,hxe⟩:∃x,x=cs[k]?.getD 0:=⟨_,rfl⟩
      rw[← hxe] at hx hc HD
      have HM:=Lib.hid (fun W=>modulo_c (x - (q:Int) - (r:Int)) n W hn1 (by omega))
      rw[← HD.out] at HM
      have hdl:0≤delta n cs k∧delta n cs k<(n:Int):=by rw[HD.out];exact ⟨Int.emod_nonneg _ (by omega),Int.emod_lt_of_pos _ (by omega)⟩
      have HN:=Lib.hid (fun (e:delta n cs k % (D:Int)=0)=>show RefTo n cs (D:Int) (k+1) from fun j hj=>by
       rcases Nat.lt_or_ge j k with e2|e2
       ·exact hr.out j e2
       ·rw[show j=k by omega];exact e)
      have HF:=Lib.hid (fun (e:delta n cs k % (D:Int)≠0)=>show refuB n cs (D:Int)=false from by
       rw[HE.out,List.all_eq_false]
       exact ⟨k,List.mem_range.2 (by rw[HL.out];exact hlt),by simpa using e⟩)
      generalize delta n cs k=dl at HM hdl HN HF
      clear hq hr2 hxe HD hmq hkn
      have hnI:(n:Int)≠0:=by omega
      cases ht:(dl % (D:Int) != 0) with
      | true =>
       go_wp2_with fail
       refine wp_region_S (fun w'=>∃u,w'=over (wr) u) [] [(0,0),(0,1),(0,2),(0,3),(0,4),(0,5),(0,6),(0,7),(0,8),(0,9),(0,11),(1,10),(0,12),(0,13)] (by kernel_rfl) (by kernel_rfl) (by exact ⟨_,below_over (by repeat (first|assumption|exact Below.refl _ _|refine keep_drew ?_|refine keep_alloc ?_ _|refine keep_trans ?_ (by assumption)))⟩) ?_
       dsimp only[pickOps,nthOp]
       repeat (first|(refine wpS_skip rfl (fun K hK=>?_);go_big_quiet_op;refine hK _ ?_;clear hK K)|(refine wpS_quiet rfl rfl (fun K hK=>?_);go_big_quiet_op;refine hK _ ?_;clear hK K)|(refine wpS_loud ?_;go_wp2_with ((go_at_call 123;refine (HM.out _).mono ?_;rintro _ w1 ⟨rfl,rfl⟩));refine ⟨?_,?_⟩;focus (exact ⟨_,below_over (by repeat (first|assumption|exact Below.refl _ _|refine keep_drew ?_|refine keep_alloc ?_ _|refine keep_trans ?_ (by assumption)))⟩)))
       refine wpS_end ?_
       go_wp2_with fail
       go_ret
       exact ⟨ret_bool (HF.out (by simpa using ht)).symm,(fB.trans (hbr.mono fB.size)).drew⟩
      | false =>
       go_wp2_with fail
       refine wp_region_S (fun w'=>∃u,w'=over (wr) u) [] [(0,0),(0,1),(0,2),(0,3),(0,4),(0,5),(0,6),(0,7),(0,8),(0,9),(0,11),(1,10),(0,12),(0,13)] (by kernel_rfl) (by kernel_rfl) (by exact ⟨_,below_over (by repeat (first|assumption|exact Below.refl _ _|refine keep_drew ?_|refine keep_alloc ?_ _|refine keep_trans ?_ (by assumption)))⟩) ?_
       dsimp only[pickOps,nthOp]
       repeat (first|(refine wpS_skip rfl (fun K hK=>?_);go_big_quiet_op;refine hK _ ?_;clear hK K)|(refine wpS_quiet rfl rfl (fun K hK=>?_);go_big_quiet_op;refine hK _ ?_;clear hK K)|(refine wpS_loud ?_;go_wp2_with ((go_at_call 123;refine (HM.out _).mono ?_;rintro _ w1 ⟨rfl,rfl⟩));refine ⟨?_,?_⟩;focus (exact ⟨_,below_over (by repeat (first|assumption|exact Below.refl _ _|refine keep_drew ?_|refine keep_alloc ?_ _|refine keep_trans ?_ (by assumption)))⟩)))
       refine wpS_end ?_
       go_wp2_with fail
       go_roundw
       case rel=>exact ⟨k+1,by omega,by go_num,HN.out (by simpa using ht),hbr.drew⟩
       case measure=>simp[intOf];omega
     ·have e:k=m:=by omega
      subst e
      go_wp2_with fail
      go_ret
      refine ⟨ret_bool ?_,fB.trans (hbr.mono fB.size)⟩
      rw[HE.out,Bool.eq_iff_iff,List.all_eq_true]
      exact ⟨fun _ j hj=>by rw[List.mem_range,HL.out] at hj;exact decide_eq_true (hr.out j hj),fun _=>rfl⟩
  ·have hd3:((n:Int) % (D:Int) != 0)=true:=by simpa using h3
   have HE:Hid (refuB n cs (D:Int)=false):=by unfold Hid refuB;rw[decide_eq_false h3];simp
   go_enter Tryz.func124,Tryz.ntmps124
   go_wp2_with fail
   have fB:Below w.heap.size w (w.alloc (.cells #[.int .i64 (n:Int),.int .i64 (n:Int),.slice a m c] 24)):=(Below.refl _ _).alloc (Nat.le_refl _) _
   have FQ:Hid ((w.alloc (.cells #[.int .i64 (n:Int),.int .i64 (n:Int),.slice a m c] 24)).heap[w.heap.size]?=some (.cells #[.int .i64 (n:Int),.int .i64 (n:Int),.slice a m c] 24 (0,0))):=World.alloc_heap_new _ _
   generalize (w.alloc (.cells #[.int .i64 (n:Int),.int .i64 (n:Int),.slice a m c] 24))=W0 at fB FQ ⊢
   obtain ⟨x0,x1,x2,xl⟩:=c3_of FQ.out
   go_wp2_with fail
   go_ret
   exact ⟨ret_bool HE.out.symm,fB⟩
def leastR (n:Nat) (cs:List Int):Option Nat:=(List.range (n+1)).find? fun d=>refuB n cs (d:Int)
def refV (n:Nat) (cs:List Int):Int:=(leastR n cs).elim 0 fun d=>(d:Int)
def refEr (n:Nat) (cs:List Int):Int:=(leastR n cs).elim 7 fun _=>0
theorem find_range {p:Nat→Bool} {k m:Nat} (hk:k<m) (hb:∀j,j<k→p j=false) (hp:p k=true):(List.range m).find? p=some k:=by
 rw[List.find?_eq_some_iff_append]
 refine ⟨hp,List.range k,(List.range' (k+1) (m - k - 1)),?_,fun j hj=>by rw[hb j (List.mem_range.1 hj)];rfl⟩
 rw[← List.range'_succ,List.range_eq_range',List.range_eq_range',show m=k+(m - k) by omega]
 have:=List.range'_append (s:=0) (m:=k) (n:=m - k) (step:=1)
 rw[show k+(m - k) - k - 1+1=m - k by omega,← this]
 congr 1
 simp
theorem find_none {p:Nat→Bool} {m:Nat} (hb:∀j,j<m→p j=false):(List.range m).find? p=none:=by
 rw[List.find?_eq_none]
 intro j hj
 rw[hb j (List.mem_range.1 hj)]
 decide
theorem lrefute_c (n:Nat) (a:Option Addr) (m c:Nat) (cs:List Int) (w:World) (h:IC w a m cs) (S:Sq n cs) (h0:sqE 0 (n:Int) (n:Int) cs=0) :
  Calls Tryz.prog 49 #[.agg #[.int .i64 (n:Int),.int .i64 (n:Int),.slice a m c]] w fun e w'=>e = .returned (.tuple #[.int .i64 (refV n cs),.int .i64 (refEr n cs)])∧Below w.heap.size w w':=by
 have hn1:=S.n1
 have hn2:=S.n2
 have HK:=Lib.hid (fun W (hb:Below w.heap.size w W)=>latcheck_c (n:Int) (n:Int) a m c cs W (h.mono hb))
 rw[h0] at HK
 have HR:=Lib.hid (fun (d:Nat) W (hb:Below w.heap.size w W)=>lrefutes_c n a m c cs (d:Int) W (h.mono hb) S)
 clear h h0
 go_enter Tryz.func49,Tryz.ntmps49
 go_wp2_with fail
 have fB:Below w.heap.size w (w.alloc (.cells #[.int .i64 (n:Int),.int .i64 (n:Int),.slice a m c] 24)):=(Below.refl _ _).alloc (Nat.le_refl _) _
 have FQ:Hid ((w.alloc (.cells #[.int .i64 (n:Int),.int .i64 (n:Int),.slice a m c] 24)).heap[w.heap.size]?=some (.cells #[.int .i64 (n:Int),.int .i64 (n:Int),.slice a m c] 24 (0,0))):=World.alloc_heap_new _ _
 generalize (w.alloc (.cells #[.int .i64 (n:Int),.int .i64 (n:Int),.slice a m c] 24))=W0 at fB FQ ⊢
 obtain ⟨x0,x1,x2,xl⟩:=c3_of FQ.out
 go_wp2_with (first|(go_at_call 58;refine (HK.out _ fB).mono ?_;rintro _ w1 ⟨rfl,hb1⟩;clear x0 x1 x2 xl;obtain ⟨x0,x1,x2,xl⟩:=c3_of (keepq hb1 FQ.out)))
 have hB1:Hid (Below w.heap.size w w1):=keep_trans fB hb1
 have FQ1:=Lib.hid (keepq hb1 FQ.out)
 clear hb1 fB FQ
 go_loopw [5,14] (fun _ s wr=>∃k:Nat,k≤n+1∧s = .int .i64 k∧Hid (∀j:Nat,j<k→refuB n cs (j:Int)=false)∧Below w1.heap.size w1 wr) (fun _ s _=>n+1 - (intOf s).toNat)
 case atStart=>exact ⟨0,by omega,rfl,fun j hj=>absurd hj (by omega),Below.refl _ _⟩
 case round =>
  obtain ⟨k,hk,rfl,hr,hbr⟩:=hrel
  clear x0 x1 x2 xl
  obtain ⟨x0,x1,x2,xl⟩:=c3_of (keepq hbr FQ1.out)
  by_cases hlt:k<n+1
  ·have HRk:=Lib.hid (HR.out k)
   have HN:=Lib.hid (fun e=>upB_snoc (f:=fun j:Nat=>refuB n cs (j:Int)) hr.out e)
   have HF:=Lib.hid (fun e=>find_range (p:=fun j:Nat=>refuB n cs (j:Int)) hlt hr.out e)
   cases ht:refuB n cs (k:Int) with
   | true =>
    rw[ht] at HRk
    have HL:Hid (leastR n cs=some k):=HF.out ht
    clear ht
    go_wp2_with (first|(go_at_call 124;refine (HRk.out _ (keep_trans hB1.out hbr)).mono ?_;rintro _ w2 ⟨rfl,hb2⟩))
    go_ret2
    refine ⟨?_,keep_trans (keep_trans hB1.out hbr) hb2⟩
    unfold refV refEr
    rw[HL.out];rfl
   | false =>
    rw[ht] at HRk
    have HN2:=Lib.hid (HN.out ht)
    clear ht
    go_wp2_with (first|(go_at_call 124;refine (HRk.out _ (keep_trans hB1.out hbr)).mono ?_;rintro _ w2 ⟨rfl,hb2⟩))
    go_roundw
    case rel=>exact ⟨k+1,by omega,by go_num,HN2.out,keep_trans hbr hb2⟩
    case measure=>simp[intOf];omega
  ·have e:k=n+1:=by omega
   subst e
   have HL:Hid (leastR n cs=none):=find_none hr.out
   go_wp2_with fail
   go_ret2
   refine ⟨?_,keep_trans hB1.out hbr⟩
   unfold refV refEr
   rw[HL.out];rfl
end
section
open Go Go.RowKit Go.Maps Go.WideMaps
theorem laidOut4:laidOutB Tryz.prog=true:=by kernel_rfl
theorem pairRow:(62:TypeId)<Tryz.prog.types.size:=of_decide_eq_true (by kernel_rfl)
theorem pairArr:ArrKey Tryz.prog 62 3 2:=⟨Tryz.underlying62,by kernel_rfl,by kernel_rfl,by kernel_rfl⟩
theorem pairWide:(match Tryz.prog.underlying 62 with|some (.array _ _)|some (.struct _)=>true|_=>false)=true:=by rw[Tryz.underlying62]
theorem pairKeyed:Keyed Tryz.prog 62:=Keyed.of_law (deep_law_laid laidOut4 (m:=2) (by omega) pairRow (by kernel_rfl) pairWide)
abbrev Pr:={p:Int × Int // (Lit.int .i64 p.1).wf=true∧(Lit.int .i64 p.2).wf=true}
def kapP (p:Pr):Lit := .string (keyBytes [.int .i64 p.1.1,.int .i64 p.1.2])
theorem keyP (p:Pr):keyOf Tryz.prog 62 (.agg #[.int .i64 p.1.1,.int .i64 p.1.2])=some (kapP p):=keyOf_pair pairArr Tryz.underlying3 ⟨_,rfl⟩ p.2.1 p.2.2
theorem injP (x y:Pr) (h:kapP x=kapP y):x=y:=by
 have h1:=keyP x
 have h2:=keyP y
 rw[h] at h1
 have:=pairKeyed.inj h1 h2
 simp only[Value.agg.injEq,Array.mk.injEq,List.cons.injEq,Value.int.injEq,and_true,true_and] at this
 exact Subtype.ext (Prod.ext this.1 this.2)
theorem wf64 {x:Int} (h0 : -1000000000000≤x) (h1:x≤1000000000000):(Lit.int .i64 x).wf=true:=by
 show (decide (IntKind.i64.min≤x)&&decide (x≤IntKind.i64.max))=true
 rw[Bool.and_eq_true,decide_eq_true_eq,decide_eq_true_eq]
 exact ⟨Int.le_trans (by decide) h0,Int.le_trans h1 (by decide)⟩
theorem zeroInt (w:World):(zeroValue 3).run Tryz.prog w = .ok (.int .i64 0) w:=by kernel_rfl
end
end Go.Proofs.YtmfpdakaeagdpaaGreat
