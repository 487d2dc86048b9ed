/- Texts J26 to J48 of this proof, in one file. -/
import Derived.Test.YtpkghjoippcjeaaGreatDoorW35
import Derived.Test.YtpkghjoippcjeaaGreatDoorW39
import Derived.Test.YtpkghjoippcjeaaGreatDoorW42
import Derived.Test.YtpkghjoippcjeaaGreatDoorW51
import Derived.Test.YtpkghjoippcjeaaGreatDoorW53
import Derived.Test.YtpkghjoippcjeaaGreatDoorW54
import Derived.WideKeyPair
import Derived.DeepKeys4
namespace Go.Proofs.YtpkghjoippcjeaaGreatDoor
set_option maxRecDepth 100000
set_option maxHeartbeats 16000000
section
open Go Go.RowKit
attribute [local go_sem] over_cell
attribute [local go_sem] Oper.semAt_some
def GridE (w:World) (r C:Int) (cs:List Int) (er:Int) (e:Ending) (w':World):Prop :=
 ∃a c,e = .returned (.tuple #[.agg #[.int .i64 r,.int .i64 C,.slice a cs.length c],.int .i64 er])∧w'.ownsRow w.heap.size 3 1 (.slice a cs.length c) cs.length (cs.map (Value.int .i64))∧Below w.heap.size w w'
def GridM (w:World) (r C:Int) (cs:List Int) (e:Ending) (w':World):Prop :=
 ∃a c,e = .returned (.agg #[.int .i64 r,.int .i64 C,.slice a cs.length c])∧w'.ownsRow w.heap.size 3 1 (.slice a cs.length c) cs.length (cs.map (Value.int .i64))∧Below w.heap.size w w'
section
variable {W:World} {b:Nat} {u0 u1 u2 x0 x1 x2:Value} {T:TypeId}
theorem st3_q (q:W.heap[b]?=some (.cells #[u0,u1,u2] T (0,0))):(((W.setCell ⟨b,0,none⟩ x0).setCell ⟨b,1,none⟩ x1).setCell ⟨b,2,none⟩ x2).heap[b]?=some (.cells #[x0,x1,x2] T (0,0)):=q_set (i:=2) (q_set (i:=1) (q_set (i:=0) q x0) x1) x2
theorem st3_own {B n:Nat} {e:TypeId} {v:Value} {xs:List Value} (h:W.ownsRow B e 1 v n xs) (hb:v.ownBlock≠some b):(((W.setCell ⟨b,0,none⟩ x0).setCell ⟨b,1,none⟩ x1).setCell ⟨b,2,none⟩ x2).ownsRow B e 1 v n xs :=
 ownsRow_setCell_other (ownsRow_setCell_other (ownsRow_setCell_other h (a:=⟨b,0,none⟩) hb x0) (a:=⟨b,1,none⟩) hb x1) (a:=⟨b,2,none⟩) hb x2
theorem st3_below {B:Nat} {w:World} (h:Below B w W) (hb:B≤b):Below B w (((W.setCell ⟨b,0,none⟩ x0).setCell ⟨b,1,none⟩ x1).setCell ⟨b,2,none⟩ x2) :=
 ((h.setCell (p:=⟨b,0,none⟩) hb x0).setCell (p:=⟨b,1,none⟩) hb x1).setCell (p:=⟨b,2,none⟩) hb x2
end
theorem c1_of {w:World} {b:Nat} {v0:Value} {T:TypeId} (h:w.heap[b]?=some (.cells #[v0] T (0,0))):w.cell? ⟨b,0,none⟩=some v0∧w.frozen? ⟨b,0,none⟩=false∧b<w.heap.size:=⟨q_cell h 0,q_free h 0,q_lt h⟩
theorem f3_of {w:World} {b:Nat} {v0 v1 v2:Value} {T:TypeId} (h:w.heap[b]?=some (.cells #[v0,v1,v2] T (0,0))):w.frozen? ⟨b,0,none⟩=false∧w.frozen? ⟨b,1,none⟩=false∧w.frozen? ⟨b,2,none⟩=false:=⟨q_free h 0,q_free h 1,q_free h 2⟩
theorem made_g (N:Nat) (hN:N≤256) (fk:Nat) (fst caps:Array Value) (s:Nat→Nat→Int) (cs:List Int) (w:World) (hcs:cs=madeTo N s (N*N))
  (hcf:∀args w,Sem.run Tryz.prog (callFunc fk args) w = .ok (.enter fk args) w)
  (hs:∀i j:Nat,i<N→j<N→∀W,Below w.heap.size w W→Calls Tryz.prog fk (fst++(#[.int .i64 (i:Int),.int .i64 (j:Int)]++caps)) W (fun e w'=>e = .returned (.int .i64 (s i j))∧Below W.heap.size W w')) :
  Calls Tryz.prog 26 #[.int .i64 (N:Int),.func (.func fk) fst caps] w (GridM w (N:Int) (N:Int) cs):=by
 refine (made_c N hN fk fst caps s w hcf hs).mono ?_
 rintro e w' ⟨v,rfl,hown,hb⟩
 obtain ⟨a,c,rfl⟩:=owns_shape hown
 have hl:cs.length=N*N:=by rw[hcs,madeTo_len]
 refine ⟨a,c,by rw[hl],?_,hb⟩
 rw[hl,hcs];exact hown
theorem ordE_ok {n:Int} (h:ordE n=0):∃N:Nat,n=(N:Int)∧1≤N∧N≤16:=by
 unfold ordE whenV at h
 cases hb:(decide (1≤n)&&decide (n≤16)) with
 | false=>rw[hb] at h;exact absurd h (by decide)
 | true =>
  simp only[Bool.and_eq_true,decide_eq_true_eq] at hb
  exact ⟨n.toNat,by omega,by omega,by omega⟩
theorem enterCyc:∀args w,Sem.run Tryz.prog (callFunc 27 args) w = .ok (.enter 27 args) w:=by
 intro args w;kernel_rfl
theorem cyc1_c (N i j b:Nat) (w:World) (hN1:1≤N) (hN:N≤16) (hi:i<N) (hj:j<N) (hq:w.heap[b]?=some (.cells #[.int .i64 (N:Int)] 3 (0,0))) :
  Calls Tryz.prog 27 #[.int .i64 (i:Int),.int .i64 (j:Int),.pointer (some ⟨b,0,none⟩)] w fun e w'=>e = .returned (.int .i64 (((i:Int)+(j:Int)) % (N:Int)))∧Below w.heap.size w w':=by
 have c0:=q_cell hq 0
 have hl:=q_lt hq
 have hne:(N:Int)≠0:=by omega
 go_enter Tryz.func27,Tryz.ntmps27
 go_wp2
 go_ret
 exact ⟨rfl,Below.refl _ _⟩
-- a zero grid and an error come back;the result's box is bR
-- the arm of a call that makes a grid: its box holds zeros
def cycS (N i j:Nat):Int:=((i:Int)+(j:Int)) % (N:Int)
def cycL (n:Int):List Int:=if ordE n=0 then madeTo n.toNat (cycS n.toNat) (n.toNat*n.toNat) else []
theorem cyclic_c (n:Int) (w:World):Calls Tryz.prog 11 #[.int .i64 n] w (GridE w (if ordE n=0 then n else 0) (if ordE n=0 then n else 0) (cycL n) (ordE n)):=by
 have HO:=Lib.hid (fun W=>corder_c n W)
 by_cases h0:ordE n=0
 ·have hcl:cycL n=madeTo n.toNat (cycS n.toNat) (n.toNat*n.toNat):=if_pos h0
  rw[if_pos h0,h0]
  rw[h0] at HO
  obtain ⟨N,rfl,hN1,hN2⟩:=ordE_ok h0
  rw[show ((N:Int)).toNat=N from rfl] at hcl
  generalize cycL (N:Int)=cs at hcl ⊢
  clear h0
  go_enter Tryz.func11,Tryz.ntmps11
  go_wp2_with fail
  have fsz:((w.alloc (.cells #[.int .i64 (N:Int)] 3)).alloc (.cells #[.int .i64 0,.int .i64 0,.slice none 0 0] 24)).heap.size=w.heap.size+2:=by simp only[World.size_alloc] <;> omega
  have fB:Below w.heap.size w ((w.alloc (.cells #[.int .i64 (N:Int)] 3)).alloc (.cells #[.int .i64 0,.int .i64 0,.slice none 0 0] 24)):=((Below.refl _ _).alloc (Nat.le_refl _) _).alloc (by simp only[World.size_alloc];omega) _
  have fq0:((w.alloc (.cells #[.int .i64 (N:Int)] 3)).alloc (.cells #[.int .i64 0,.int .i64 0,.slice none 0 0] 24)).heap[w.heap.size]?=some (.cells #[.int .i64 (N:Int)] 3 (0,0)):=by have h:=World.alloc_heap_new w (.cells #[.int .i64 (N:Int)] 3);exact (Below.heap_alloc _ _ _ (by simp only[World.size_alloc];omega)).trans (h)
  have fq1:((w.alloc (.cells #[.int .i64 (N:Int)] 3)).alloc (.cells #[.int .i64 0,.int .i64 0,.slice none 0 0] 24)).heap[w.heap.size+1]?=some (.cells #[.int .i64 0,.int .i64 0,.slice none 0 0] 24 (0,0)):=by have h:=World.alloc_heap_new (w.alloc (.cells #[.int .i64 (N:Int)] 3)) (.cells #[.int .i64 0,.int .i64 0,.slice none 0 0] 24);simp only[World.size_alloc] at h;exact h
  generalize ((w.alloc (.cells #[.int .i64 (N:Int)] 3)).alloc (.cells #[.int .i64 0,.int .i64 0,.slice none 0 0] 24))=W0 at fsz fB fq0 fq1 ⊢
  obtain ⟨x0,xf,xl⟩:=c1_of fq0
  have HM:=Lib.hid (made_g N (by omega) 27 #[] #[.pointer (some ⟨w.heap.size,0,none⟩)] (cycS N) cs W0 hcl enterCyc (fun i j hi hj W hb=>cyc1_c N i j w.heap.size W hN1 hN2 hi hj (keepq hb fq0)))
  have HQ1:=Lib.hid fq1
  have hl1:=q_lt fq1
  clear fsz fq1 fq0 hcl
  go_wp2_with (first|(go_at_call 25;refine (HO.out _).mono ?_;rintro _ w1 ⟨rfl,rfl⟩)|(go_at_call 26;refine HM.out.mono ?_;rintro _ w2 ⟨a2,c2,rfl,hown2,hb2⟩;have g1:=keepq hb2 HQ1.out;obtain ⟨y0,y1,y2,yl⟩:=c3_of g1;obtain ⟨yf0,yf1,yf2⟩:=f3_of g1))
  have hne:(Value.slice a2 (cs).length c2).ownBlock≠some (w.heap.size+1):=fun e=>absurd (hown2.lt _ e).1 (by omega)
  have g3:=st3_q (x0 := .int .i64 (N:Int)) (x1 := .int .i64 (N:Int)) (x2 := .slice a2 (cs).length c2) g1
  have hown3:=st3_own (x0 := .int .i64 (N:Int)) (x1 := .int .i64 (N:Int)) (x2 := .slice a2 (cs).length c2) hown2 hne
  have hb3:=st3_below (x0 := .int .i64 (N:Int)) (x1 := .int .i64 (N:Int)) (x2 := .slice a2 (cs).length c2) (b:=w.heap.size+1) (keep_trans fB hb2) (by omega)
  obtain ⟨z0,z1,z2,zl⟩:=c3_of g3
  refine bodyPost_ret (v := .tuple #[.agg #[.int .i64 (N:Int),.int .i64 (N:Int),.slice a2 (cs).length c2],.int .i64 0]) ?_ rfl ⟨_,_,rfl,owns_base hown3 fB.size,hb3⟩
  simp[results,Tryz.f11,go_sem,z0,z1,z2]
 ·have hcl:cycL n=[]:=if_neg h0
  rw[if_neg h0,hcl]
  have h0':(ordE n != 0)=true:=by simpa using h0
  generalize ordE n=er at HO h0' ⊢
  clear h0 hcl
  go_enter Tryz.func11,Tryz.ntmps11
  go_wp2_with fail
  have fsz:((w.alloc (.cells #[.int .i64 n] 3)).alloc (.cells #[.int .i64 0,.int .i64 0,.slice none 0 0] 24)).heap.size=w.heap.size+2:=by simp only[World.size_alloc] <;> omega
  have fB:Below w.heap.size w ((w.alloc (.cells #[.int .i64 n] 3)).alloc (.cells #[.int .i64 0,.int .i64 0,.slice none 0 0] 24)):=((Below.refl _ _).alloc (Nat.le_refl _) _).alloc (by simp only[World.size_alloc];omega) _
  have fq0:((w.alloc (.cells #[.int .i64 n] 3)).alloc (.cells #[.int .i64 0,.int .i64 0,.slice none 0 0] 24)).heap[w.heap.size]?=some (.cells #[.int .i64 n] 3 (0,0)):=by have h:=World.alloc_heap_new w (.cells #[.int .i64 n] 3);exact (Below.heap_alloc _ _ _ (by simp only[World.size_alloc];omega)).trans (h)
  have fq1:((w.alloc (.cells #[.int .i64 n] 3)).alloc (.cells #[.int .i64 0,.int .i64 0,.slice none 0 0] 24)).heap[w.heap.size+1]?=some (.cells #[.int .i64 0,.int .i64 0,.slice none 0 0] 24 (0,0)):=by have h:=World.alloc_heap_new (w.alloc (.cells #[.int .i64 n] 3)) (.cells #[.int .i64 0,.int .i64 0,.slice none 0 0] 24);simp only[World.size_alloc] at h;exact h
  generalize ((w.alloc (.cells #[.int .i64 n] 3)).alloc (.cells #[.int .i64 0,.int .i64 0,.slice none 0 0] 24))=W0 at fsz fB fq0 fq1 ⊢
  obtain ⟨x0,xf,xl⟩:=c1_of fq0
  obtain ⟨y0,y1,y2,yl⟩:=c3_of fq1
  obtain ⟨yf0,yf1,yf2⟩:=f3_of fq1
  go_wp2_with (first|(go_at_call 25;refine (HO.out _).mono ?_;rintro _ w1 ⟨rfl,rfl⟩))
  have g3:=st3_q (x0 := .int .i64 0) (x1 := .int .i64 0) (x2 := .slice none 0 0) fq1
  have hb3:=st3_below (x0 := .int .i64 0) (x1 := .int .i64 0) (x2 := .slice none 0 0) (b:=w.heap.size+1) fB (by omega)
  obtain ⟨z0,z1,z2,zl⟩:=c3_of g3
  refine bodyPost_ret (v := .tuple #[.agg #[.int .i64 0,.int .i64 0,.slice none 0 0],.int .i64 (er)]) ?_ rfl ⟨none,0,rfl,World.ownsRow_nil _ _ _ _,hb3⟩
  simp[results,Tryz.f11,go_sem,z0,z1,z2]
end
section
open Go Go.RowKit
attribute [local go_sem] over_cell
attribute [local go_sem] Oper.semAt_some
end
section
open Go Go.RowKit Go.Maps Go.WideMaps
end
section
open Go Go.RowKit Go.Maps
attribute [local go_sem] over_cell
attribute [local go_sem] Oper.semAt_some
end
section
structure PermL (n:Nat) (p:List Int):Prop where
 len:p.length=n
 nodup:p.Nodup
 num:∀x,x∈p→0≤x∧x<(n:Int)
def nat (p:List Int) (i:Nat):Nat:=(p[i]?.getD 0).toNat
theorem PermL.get {n:Nat} {p:List Int} (P:PermL n p) {i:Nat} (hi:i<n):p[i]?.getD 0=(nat p i:Int)∧nat p i<n:=by
 have h2:=P.num (p[i]?.getD 0) (by rw[List.getElem?_eq_getElem (by rw[P.len];exact hi),Option.getD_some];exact List.getElem_mem _)
 unfold nat
 omega
theorem PermL.inj {n:Nat} {p:List Int} (P:PermL n p) {i j:Nat} (hi:i<n) (hj:j<n) (h:nat p i=nat p j):i=j:=by
 have h1:=(P.get hi).1
 have h2:=(P.get hj).1
 rw[List.getElem?_eq_getElem (by rw[P.len];exact hi),Option.getD_some] at h1
 rw[List.getElem?_eq_getElem (by rw[P.len];exact hj),Option.getD_some] at h2
 exact (List.getElem_inj (h₀:=by rw[P.len];exact hi) (h₁:=by rw[P.len];exact hj) P.nodup).1 (by rw[h1,h2,h])
theorem Latin.nat {n:Nat} {cs:List Int} (L:Latin n cs) {c:Nat} (hc:c<n*n):cs[c]?.getD 0=(nat cs c:Int)∧nat cs c<n:=by
 have:=L.get hc
 unfold Go.Proofs.YtpkghjoippcjeaaGreatDoor.nat
 omega
end
section
open Go Go.RowKit
attribute [local go_sem] over_cell
attribute [local go_sem] Oper.semAt_some
structure NumL (n:Nat) (p:List Int):Prop where
 len:p.length=n
 num:∀x,x∈p→0≤x∧x<(n:Int)
theorem NumL.get {n:Nat} {p:List Int} (P:NumL n p) {i:Nat} (hi:i<n):p[i]?.getD 0=(nat p i:Int)∧nat p i<n:=by
 unfold nat
 rw[List.getElem?_eq_getElem (by rw[P.len];exact hi),Option.getD_some]
 have:=P.num _ (List.getElem_mem (by rw[P.len];exact hi:i<p.length))
 omega
end
section
open Go Go.RowKit
attribute [local go_sem] over_cell
attribute [local go_sem] Oper.semAt_some
theorem IC.own {w:World} {B:Nat} {a:Option Addr} {n c:Nat} {xs:List Int} (h:w.ownsRow B 3 1 (.slice a n c) n (xs.map (Value.int .i64))) (hl:xs.length=n) (hs:n≤17592186044416):IC w a n xs∧n≤c:=by
 subst hl
 exact IC.of_owns h hs
end
end Go.Proofs.YtpkghjoippcjeaaGreatDoor
