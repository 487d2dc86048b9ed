/- Texts C25 to I2 of this proof, in one file. -/
import Derived.Test.YtaadpihbjhachaaGreatW04
import Derived.Test.YtaadpihbjhachaaGreatW05
import Derived.Lib.Hide
import Derived.RangeFuncNested
import Derived.RangeFuncLeaves
import Derived.RangeFuncCalls
import Derived.OwnWalkIn
import Derived.TacticsInMore
import Derived.LoopNIn
import Derived.LoopIn
import Derived.RangeFuncBound
namespace Go.Proofs.YtaadpihbjhachaaGreat
set_option maxRecDepth 100000
set_option maxHeartbeats 16000000
section
open Go Go.RowKit
attribute [local go_sem] zv
def short6B (cells:Int) (ls:List (List Int)) (g:List Int):Bool:=shortB cells 40 ls&&decide ((g.length:Int)≤cells)
theorem short6_c (a:Option Addr) (n c:Nat) (ls:List (List Int)) (sc sum:Int) (a':Option Addr) (n' c':Nat) (g:List Int) (cells:Int) (w:World) (h:RC w a n ls) (h':IC w a' n' g) :
  Calls Tryz.prog 50 #[.agg #[.int .i64 sc,.slice a n c,.int .i64 sum,.slice a' n' c'],.int .i64 cells] w fun e w'=>e = .returned (.bool (short6B cells ls g))∧Below w.heap.size w w':=by
 have hl:=h'.len
 have hB:Below w.heap.size w (w.alloc (.cells #[.int .i64 sc,.slice a n c,.int .i64 sum,.slice a' n' c'] 30)):=(Below.refl _ _).alloc (Nat.le_refl _) _
 have HS:=za (short2_c a n c ls cells 40 sc _ (h.mono hB))
 have hE:Hid (short6B cells ls g=(shortB cells 40 ls&&decide ((n':Int)≤cells))):=by
  unfold Hid
  rw[short6B,hl]
 clear h h'
 go_enter Tryz.func50,Tryz.ntmps50
 by_cases hs:shortB cells 40 ls=true
 ·rw[hs] at HS hE
  go_wp2_with (go_at_call 96;refine HS.out.mono ?_;rintro _ w1 ⟨rfl,hb0⟩;obtain ⟨⟨x0,x1,x2,x3⟩,hb1,hs1⟩:=box4 hb0;clear hb0)
  go_ret
  exact ⟨zN (by rw[hE.out];simp),hb1⟩
 ·have hs':shortB cells 40 ls=false:=by simpa using hs
  rw[hs'] at HS hE
  go_wp2_with (go_at_call 96;refine HS.out.mono ?_;rintro _ w1 ⟨rfl,hb0⟩;obtain ⟨⟨x0,x1,x2,x3⟩,hb1,hs1⟩:=box4 hb0;clear hb0)
  go_ret
  exact ⟨zN (by rw[hE.out];simp),hb1⟩
theorem box2 {w w1:World} {x0 x1:Value} {T:TypeId} (hb:Below (w.alloc (.cells #[x0,x1] T)).heap.size (w.alloc (.cells #[x0,x1] T)) w1) :
  (w1.cell? ⟨w.heap.size,0,none⟩=some x0∧w1.cell? ⟨w.heap.size,1,none⟩=some x1)∧Below w.heap.size w w1∧w.heap.size<w1.heap.size:=by
 have hlt:w.heap.size<(w.alloc (.cells #[x0,x1] T)).heap.size:=by simp
 have hc:=fun i=>((zF hb).1 w.heap.size i hlt).trans (zq w #[x0,x1] T i)
 exact ⟨⟨hc 0,hc 1⟩,((Below.refl _ _).alloc (Nat.le_refl _) _).trans (hb.mono (by omega)),Nat.lt_of_lt_of_le hlt hb.size⟩
def few2B (cells lines sc:Int) (ls:List (List Int)):Bool:=shortB cells lines ls&&(zX sc ls==0)&&decide (sc≤cells)
theorem few2_c (a:Option Addr) (n c:Nat) (ls:List (List Int)) (sc cells lines:Int) (w:World) (h:RC w a n ls) (hcap:n≤c) :
  Calls Tryz.prog 33 #[.agg #[.int .i64 sc,.slice a n c],.int .i64 cells,.int .i64 lines] w fun e w'=>e = .returned (.bool (few2B cells lines sc ls))∧Below w.heap.size w w':=by
 have hB:Below w.heap.size w (w.alloc (.cells #[.int .i64 sc,.slice a n c] 24)):=(Below.refl _ _).alloc (Nat.le_refl _) _
 have HS:=za (short2_c a n c ls cells lines sc _ (h.mono hB))
 have HC:=za (fun w1 (hb:Below w.heap.size w w1)=>sys2_c a n c ls sc w1 (h.mono hb) hcap)
 have hE:Hid (few2B cells lines sc ls=(shortB cells lines ls&&(zX sc ls==0)&&decide (sc≤cells))):=rfl
 clear h
 go_enter Tryz.func33,Tryz.ntmps33
 by_cases hs:shortB cells lines ls=true
 ·rw[hs] at HS hE
  by_cases he:(zX sc ls==0)=true
  ·rw[he] at hE
   go_wp2_with (first|(go_at_call 96;refine HS.out.mono ?_;rintro _ w1 ⟨rfl,hb0⟩;obtain ⟨⟨x0,x1⟩,hb1,hs1⟩:=box2 hb0;clear hb0)|(go_at_call 61;refine (HC.out w1 hb1).mono ?_;rintro _ w2 ⟨rfl,hb2⟩;obtain ⟨y0,y1⟩:w2.cell? ⟨w.heap.size,0,none⟩=some (.int .i64 sc)∧w2.cell? ⟨w.heap.size,1,none⟩=some (.slice a n c):=⟨((zF hb2).1 _ _ hs1).trans x0,((zF hb2).1 _ _ hs1).trans x1⟩))
   go_ret
   exact ⟨zN (by rw[hE.out];simp),hb1.trans (hb2.mono (by omega))⟩
  ·have he':(zX sc ls==0)=false:=by simpa using he
   rw[he'] at hE
   go_wp2_with (first|(go_at_call 96;refine HS.out.mono ?_;rintro _ w1 ⟨rfl,hb0⟩;obtain ⟨⟨x0,x1⟩,hb1,hs1⟩:=box2 hb0;clear hb0)|(go_at_call 61;refine (HC.out w1 hb1).mono ?_;rintro _ w2 ⟨rfl,hb2⟩;obtain ⟨y0,y1⟩:w2.cell? ⟨w.heap.size,0,none⟩=some (.int .i64 sc)∧w2.cell? ⟨w.heap.size,1,none⟩=some (.slice a n c):=⟨((zF hb2).1 _ _ hs1).trans x0,((zF hb2).1 _ _ hs1).trans x1⟩))
   go_ret
   exact ⟨zN (by rw[hE.out];simp),hb1.trans (hb2.mono (by omega))⟩
 ·have hs':shortB cells lines ls=false:=by simpa using hs
  rw[hs'] at HS hE
  go_wp2_with (first|(go_at_call 96;refine HS.out.mono ?_;rintro _ w1 ⟨rfl,hb0⟩;obtain ⟨⟨x0,x1⟩,hb1,hs1⟩:=box2 hb0;clear hb0)|(go_at_call 61;refine (HC.out w1 hb1).mono ?_;rintro _ w2 ⟨rfl,hb2⟩;obtain ⟨y0,y1⟩:w2.cell? ⟨w.heap.size,0,none⟩=some (.int .i64 sc)∧w2.cell? ⟨w.heap.size,1,none⟩=some (.slice a n c):=⟨((zF hb2).1 _ _ hs1).trans x0,((zF hb2).1 _ _ hs1).trans x1⟩))
  go_ret
  exact ⟨zN (by rw[hE.out];simp),hb1⟩
end
section
open Go Go.RowKit
attribute [local go_sem] zv
def few6B (cells op sc sum:Int) (ls:List (List Int)) (g:List Int):Bool:=short6B cells ls g&&(zx sc ls sum g==0)&&few2B cells 12 sc ls&&decide (((zj g).length:Int)≤op)
theorem few6_c (a:Option Addr) (n c:Nat) (ls:List (List Int)) (sc sum:Int) (a':Option Addr) (n' c':Nat) (g:List Int) (cells op:Int) (w:World) (h:RC w a n ls) (hcap:n≤c) (h':IC w a' n' g) (hcap':n'≤c') :
  Calls Tryz.prog 9 #[.agg #[.int .i64 sc,.slice a n c,.int .i64 sum,.slice a' n' c'],.int .i64 cells,.int .i64 op] w fun e w'=>e = .returned (.bool (few6B cells op sc sum ls g))∧Below w.heap.size w w':=by
 have hB:Below w.heap.size w (w.alloc (.cells #[.int .i64 sc,.slice a n c,.int .i64 sum,.slice a' n' c'] 30)):=(Below.refl _ _).alloc (Nat.le_refl _) _
 have HS:=za (short6_c a n c ls sc sum a' n' c' g cells _ (h.mono hB) (h'.mono hB))
 have HC:=za (fun w1 (hb:Below w.heap.size w w1)=>rtask_c a n c ls sc sum a' n' c' g w1 (h.mono hb) hcap (h'.mono hb) hcap')
 have HF:=za (fun w1 (hb:Below w.heap.size w w1)=>few2_c a n c ls sc cells 12 w1 (h.mono hb) hcap)
 have HO:=za (fun w1 (hb:Below w.heap.size w w1)=>ropen_c (.slice a n c) sc sum a' n' c' g w1 (h'.mono hb))
 have hE:Hid (few6B cells op sc sum ls g=(short6B cells ls g&&(zx sc ls sum g==0)&&few2B cells 12 sc ls&&decide (((zj g).length:Int)≤op))):=rfl
 clear h h'
 go_enter Tryz.func9,Tryz.ntmps9
 by_cases hs:short6B cells ls g=true
 ·rw[hs] at HS hE
  by_cases he:(zx sc ls sum g==0)=true
  ·rw[he] at hE
   by_cases hf:few2B cells 12 sc ls=true
   ·rw[hf] at HF hE
    go_wp2_with (first|(go_at_call 50;refine HS.out.mono ?_;rintro _ w1 ⟨rfl,hb0⟩;obtain ⟨⟨x0,x1,x2,x3⟩,hb1,hs1⟩:=box4 hb0;clear hb0)|(go_at_call 13;refine (HC.out w1 hb1).mono ?_;rintro _ w2 ⟨rfl,hb2⟩;obtain ⟨y0,y1,y2,y3⟩:w2.cell? ⟨w.heap.size,0,none⟩=some (.int .i64 sc)∧w2.cell? ⟨w.heap.size,1,none⟩=some (.slice a n c)∧w2.cell? ⟨w.heap.size,2,none⟩=some (.int .i64 sum)∧w2.cell? ⟨w.heap.size,3,none⟩=some (.slice a' n' c'):=⟨((zF hb2).1 _ _ hs1).trans x0,((zF hb2).1 _ _ hs1).trans x1,((zF hb2).1 _ _ hs1).trans x2,((zF hb2).1 _ _ hs1).trans x3⟩;have hs2:=Nat.lt_of_lt_of_le hs1 hb2.size;have hb12:=hb1.trans (hb2.mono (Nat.le_of_lt hs1)))|(go_at_call 33;refine (HF.out w2 hb12).mono ?_;rintro _ w3 ⟨rfl,hb3⟩;obtain ⟨z0,z1,z2,z3⟩:w3.cell? ⟨w.heap.size,0,none⟩=some (.int .i64 sc)∧w3.cell? ⟨w.heap.size,1,none⟩=some (.slice a n c)∧w3.cell? ⟨w.heap.size,2,none⟩=some (.int .i64 sum)∧w3.cell? ⟨w.heap.size,3,none⟩=some (.slice a' n' c'):=⟨((zF hb3).1 _ _ hs2).trans y0,((zF hb3).1 _ _ hs2).trans y1,((zF hb3).1 _ _ hs2).trans y2,((zF hb3).1 _ _ hs2).trans y3⟩;have hs3:=Nat.lt_of_lt_of_le hs2 hb3.size;have hb13:=hb12.trans (hb3.mono (Nat.le_of_lt hs2)))|(go_at_call 23;refine (HO.out w3 hb13).mono ?_;rintro _ w4 ⟨v4,rfl,hown4,hb4⟩;obtain ⟨a4,c4,rfl⟩:=zr hown4))
    go_ret
    exact ⟨zN (by rw[hE.out];simp),hb13.trans (hb4.mono (Nat.le_of_lt hs3))⟩
   ·have hf':few2B cells 12 sc ls=false:=by simpa using hf
    rw[hf'] at HF hE
    go_wp2_with (first|(go_at_call 50;refine HS.out.mono ?_;rintro _ w1 ⟨rfl,hb0⟩;obtain ⟨⟨x0,x1,x2,x3⟩,hb1,hs1⟩:=box4 hb0;clear hb0)|(go_at_call 13;refine (HC.out w1 hb1).mono ?_;rintro _ w2 ⟨rfl,hb2⟩;obtain ⟨y0,y1,y2,y3⟩:w2.cell? ⟨w.heap.size,0,none⟩=some (.int .i64 sc)∧w2.cell? ⟨w.heap.size,1,none⟩=some (.slice a n c)∧w2.cell? ⟨w.heap.size,2,none⟩=some (.int .i64 sum)∧w2.cell? ⟨w.heap.size,3,none⟩=some (.slice a' n' c'):=⟨((zF hb2).1 _ _ hs1).trans x0,((zF hb2).1 _ _ hs1).trans x1,((zF hb2).1 _ _ hs1).trans x2,((zF hb2).1 _ _ hs1).trans x3⟩;have hs2:=Nat.lt_of_lt_of_le hs1 hb2.size;have hb12:=hb1.trans (hb2.mono (Nat.le_of_lt hs1)))|(go_at_call 33;refine (HF.out w2 hb12).mono ?_;rintro _ w3 ⟨rfl,hb3⟩;obtain ⟨z0,z1,z2,z3⟩:w3.cell? ⟨w.heap.size,0,none⟩=some (.int .i64 sc)∧w3.cell? ⟨w.heap.size,1,none⟩=some (.slice a n c)∧w3.cell? ⟨w.heap.size,2,none⟩=some (.int .i64 sum)∧w3.cell? ⟨w.heap.size,3,none⟩=some (.slice a' n' c'):=⟨((zF hb3).1 _ _ hs2).trans y0,((zF hb3).1 _ _ hs2).trans y1,((zF hb3).1 _ _ hs2).trans y2,((zF hb3).1 _ _ hs2).trans y3⟩;have hs3:=Nat.lt_of_lt_of_le hs2 hb3.size;have hb13:=hb12.trans (hb3.mono (Nat.le_of_lt hs2)))|(go_at_call 23;refine (HO.out w3 hb13).mono ?_;rintro _ w4 ⟨v4,rfl,hown4,hb4⟩;obtain ⟨a4,c4,rfl⟩:=zr hown4))
    go_ret
    exact ⟨zN (by rw[hE.out];simp),hb13⟩
  ·have he':(zx sc ls sum g==0)=false:=by simpa using he
   rw[he'] at hE
   go_wp2_with (first|(go_at_call 50;refine HS.out.mono ?_;rintro _ w1 ⟨rfl,hb0⟩;obtain ⟨⟨x0,x1,x2,x3⟩,hb1,hs1⟩:=box4 hb0;clear hb0)|(go_at_call 13;refine (HC.out w1 hb1).mono ?_;rintro _ w2 ⟨rfl,hb2⟩;obtain ⟨y0,y1,y2,y3⟩:w2.cell? ⟨w.heap.size,0,none⟩=some (.int .i64 sc)∧w2.cell? ⟨w.heap.size,1,none⟩=some (.slice a n c)∧w2.cell? ⟨w.heap.size,2,none⟩=some (.int .i64 sum)∧w2.cell? ⟨w.heap.size,3,none⟩=some (.slice a' n' c'):=⟨((zF hb2).1 _ _ hs1).trans x0,((zF hb2).1 _ _ hs1).trans x1,((zF hb2).1 _ _ hs1).trans x2,((zF hb2).1 _ _ hs1).trans x3⟩;have hs2:=Nat.lt_of_lt_of_le hs1 hb2.size;have hb12:=hb1.trans (hb2.mono (Nat.le_of_lt hs1)))|(go_at_call 33;refine (HF.out w2 hb12).mono ?_;rintro _ w3 ⟨rfl,hb3⟩;obtain ⟨z0,z1,z2,z3⟩:w3.cell? ⟨w.heap.size,0,none⟩=some (.int .i64 sc)∧w3.cell? ⟨w.heap.size,1,none⟩=some (.slice a n c)∧w3.cell? ⟨w.heap.size,2,none⟩=some (.int .i64 sum)∧w3.cell? ⟨w.heap.size,3,none⟩=some (.slice a' n' c'):=⟨((zF hb3).1 _ _ hs2).trans y0,((zF hb3).1 _ _ hs2).trans y1,((zF hb3).1 _ _ hs2).trans y2,((zF hb3).1 _ _ hs2).trans y3⟩;have hs3:=Nat.lt_of_lt_of_le hs2 hb3.size;have hb13:=hb12.trans (hb3.mono (Nat.le_of_lt hs2)))|(go_at_call 23;refine (HO.out w3 hb13).mono ?_;rintro _ w4 ⟨v4,rfl,hown4,hb4⟩;obtain ⟨a4,c4,rfl⟩:=zr hown4))
   go_ret
   exact ⟨zN (by rw[hE.out];simp),hb12⟩
 ·have hs':short6B cells ls g=false:=by simpa using hs
  rw[hs'] at HS hE
  go_wp2_with (first|(go_at_call 50;refine HS.out.mono ?_;rintro _ w1 ⟨rfl,hb0⟩;obtain ⟨⟨x0,x1,x2,x3⟩,hb1,hs1⟩:=box4 hb0;clear hb0)|(go_at_call 13;refine (HC.out w1 hb1).mono ?_;rintro _ w2 ⟨rfl,hb2⟩;obtain ⟨y0,y1,y2,y3⟩:w2.cell? ⟨w.heap.size,0,none⟩=some (.int .i64 sc)∧w2.cell? ⟨w.heap.size,1,none⟩=some (.slice a n c)∧w2.cell? ⟨w.heap.size,2,none⟩=some (.int .i64 sum)∧w2.cell? ⟨w.heap.size,3,none⟩=some (.slice a' n' c'):=⟨((zF hb2).1 _ _ hs1).trans x0,((zF hb2).1 _ _ hs1).trans x1,((zF hb2).1 _ _ hs1).trans x2,((zF hb2).1 _ _ hs1).trans x3⟩;have hs2:=Nat.lt_of_lt_of_le hs1 hb2.size;have hb12:=hb1.trans (hb2.mono (Nat.le_of_lt hs1)))|(go_at_call 33;refine (HF.out w2 hb12).mono ?_;rintro _ w3 ⟨rfl,hb3⟩;obtain ⟨z0,z1,z2,z3⟩:w3.cell? ⟨w.heap.size,0,none⟩=some (.int .i64 sc)∧w3.cell? ⟨w.heap.size,1,none⟩=some (.slice a n c)∧w3.cell? ⟨w.heap.size,2,none⟩=some (.int .i64 sum)∧w3.cell? ⟨w.heap.size,3,none⟩=some (.slice a' n' c'):=⟨((zF hb3).1 _ _ hs2).trans y0,((zF hb3).1 _ _ hs2).trans y1,((zF hb3).1 _ _ hs2).trans y2,((zF hb3).1 _ _ hs2).trans y3⟩;have hs3:=Nat.lt_of_lt_of_le hs2 hb3.size;have hb13:=hb12.trans (hb3.mono (Nat.le_of_lt hs2)))|(go_at_call 23;refine (HO.out w3 hb13).mono ?_;rintro _ w4 ⟨v4,rfl,hown4,hb4⟩;obtain ⟨a4,c4,rfl⟩:=zr hown4))
  go_ret
  exact ⟨zN (by rw[hE.out];simp),hb1⟩
end
section
open Go Go.RowKit
def visit (C:Cst):Nat→List Int→List (List Int)
 | 0,_=>[]
 | k+1,P=>match jJ C P with
  | none=>[]
  | some P'=>(if (P'.length==C.O.length)=true∧jE C P'=false then [jc C P'] else [])++visit C k P'
def val:Nat→List Int→Nat
 | 0,_=>0
 | _+1,[]=>0
 | m+1,x :: P=>x.toNat*257 ^ m+val m P
theorem val_lt:∀(m:Nat) (P:List Int),(∀x,x∈P→x≤256)→val m P<257 ^ m
 | 0,_,_=>by simp[val]
 | m+1,[],_=>by simp only[val];exact Nat.pow_pos (by decide)
 | m+1,x :: P,h=>by
  have h1:=val_lt m P (fun y hy=>h y (List.mem_cons_of_mem _ hy))
  have h2:=h x List.mem_cons_self
  have h3:x.toNat≤256:=by omega
  have h4:x.toNat*257 ^ m≤256*257 ^ m:=Nat.mul_le_mul_right _ h3
  simp only[val]
  rw[Nat.pow_succ]
  omega
theorem val_snoc:∀(m:Nat) (P:List Int) (x:Int),P.length<m→1≤x→val m P<val m (P++[x])
 | 0,_,_,h,_=>absurd h (Nat.not_lt_zero _)
 | m+1,[],x,_,hx=>by
  have h3:1≤x.toNat:=by omega
  have h4:1*257 ^ m≤x.toNat*257 ^ m:=Nat.mul_le_mul_right _ h3
  have h5:0<257 ^ m:=Nat.pow_pos (by decide)
  simp only[List.nil_append,val]
  omega
 | m+1,y :: P,x,h,hx=>by
  have:=val_snoc m P x (by simpa using h) hx
  simp only[List.cons_append,val]
  omega
theorem val_raise:∀(m:Nat) (Q:List Int) (y x:Int) (R:List Int),(Q++y :: R).length≤m→y.toNat<x.toNat→(∀z,z∈R→z≤256)→val m (Q++y :: R)<val m (Q++[x])
 | 0,Q,y,x,R,h,_,_=>by simp at h
 | m+1,[],y,x,R,h,hx,hR=>by
  have h1:=val_lt m R hR
  have h4:(y.toNat+1)*257 ^ m≤x.toNat*257 ^ m:=Nat.mul_le_mul_right _ hx
  rw[Nat.add_mul] at h4
  simp only[List.nil_append,val]
  omega
 | m+1,q :: Q,y,x,R,h,hx,hR=>by
  have:=val_raise m Q y x R (by simpa using h) hx hR
  simp only[List.cons_append,val]
  omega
theorem backP_val {C:Cst} (m:Nat):∀(R T:List Int) (P':List Int),(R.reverse++T).length≤m→(∀z,z∈R.reverse++T→z≤256)→qc C R=some P'→val m (R.reverse++T)<val m P'
 | [],_,_,_,_,h=>by simp[qc] at h
 | x :: R,T,P',hl,hz,h=>by
  rw[List.reverse_cons,List.append_assoc,List.singleton_append] at hl hz ⊢
  unfold qc at h
  by_cases hab:0<zJ (zZ (jg C R.reverse)) x.toNat
  ·rw[if_pos hab] at h
   cases h
   refine val_raise m _ _ _ _ hl ?_ (fun z hz2=>hz z (List.mem_append_right _ (List.mem_cons_of_mem _ hz2)))
   rw[Int.toNat_natCast]
   exact (jH hab).1
  ·rw[if_neg hab] at h
   exact backP_val m R (x :: T) P' hl hz h
theorem nextP_val {C:Cst} {P P':List Int} (he:Even C) (hf:Fine C) (ho:OkP C P) (h:jJ C P=some P'):val C.O.length P<val C.O.length P':=by
 have hz:∀z,z∈P→z≤256:=fun z hz=>by
  have:=zT.1 (ho.num z hz)
  have:=hf.len
  have:=hf.most
  omega
 unfold jJ at h
 split at h
 ·rename_i hc
  cases h
  have hne:P.length≠C.O.length:=by
   have:=hc.1
   simpa using this
  have hl:P.length<C.O.length:=by have:=ho.len;omega
  have ha:=above_first he hf hl
  exact val_snoc _ _ _ hl (by omega)
 ·have:=backP_val (C:=C) C.O.length P.reverse [] P' (by simpa using ho.len) (by simpa using hz) h
  simpa using this
end
section
open Go Go.RowKit
theorem backP_ok {C:Cst}:∀(R:List Int) (P':List Int),OkP C R.reverse→qc C R=some P'→OkP C P'
 | [],_,_,h=>by simp[qc] at h
 | x :: R,P',ho,h=>by
  rw[List.reverse_cons] at ho
  have hp:=ho.pop
  unfold qc at h
  by_cases hab:0<zJ (zZ (jg C R.reverse)) x.toNat
  ·rw[if_pos hab] at h
   cases h
   have ha:=above_left hab
   exact hp.1.push hp.2.2.2 ha.1 ha.2
  ·rw[if_neg hab] at h
   exact backP_ok R P' hp.1 h
theorem nextP_ok {C:Cst} {P P':List Int} (he:Even C) (hf:Fine C) (ho:OkP C P) (h:jJ C P=some P'):OkP C P':=by
 unfold jJ at h
 split at h
 ·rename_i hc
  cases h
  have hne:P.length≠C.O.length:=by
   have:=hc.1
   simpa using this
  have hl:P.length<C.O.length:=by have:=ho.len;omega
  have ha:=above_left (above_first he hf hl)
  exact ho.push hl ha.1 ha.2
 ·exact backP_ok P.reverse P' (by rw[List.reverse_reverse];exact ho) h
def qu (C:Cst) (P:List Int):Nat:=257 ^ C.O.length - val C.O.length P
theorem ok_val {C:Cst} {P:List Int} (hf:Fine C) (ho:OkP C P):val C.O.length P<257 ^ C.O.length :=
 val_lt _ _ fun z hz=>by
  have:=zT.1 (ho.num z hz)
  have:=hf.len
  have:=hf.most
  omega
theorem fuelP_lt {C:Cst} {P P':List Int} (he:Even C) (hf:Fine C) (ho:OkP C P) (h:jJ C P=some P'):qu C P'<qu C P:=by
 have h1:=nextP_val he hf ho h
 have h2:=ok_val hf (nextP_ok he hf ho h)
 unfold qu
 omega
def qb (C:Cst) (P:List Int):List (List Int):=visit C (qu C P) P
theorem visit_eq {C:Cst} (he:Even C) (hf:Fine C):∀(f:Nat) (P:List Int),OkP C P→qu C P=f→∀k j,f≤k→f≤j→visit C k P=visit C j P:=by
 intro f
 induction f using Nat.strongRecOn with
 | _ f ih =>
  intro P ho hfP k j hk hj
  have hpos:0<qu C P:=by
   have:=ok_val hf ho
   unfold qu
   omega
  cases k with
  | zero=>omega
  | succ k =>
   cases j with
   | zero=>omega
   | succ j =>
    simp only[visit]
    cases hn:jJ C P with
    | none=>rfl
    | some P' =>
     have h1:=fuelP_lt he hf ho hn
     simp only
     rw[ih (qu C P') (by omega) P' (nextP_ok he hf ho hn) rfl k j (by omega) (by omega)]
theorem found_step {C:Cst} {P:List Int} (he:Even C) (hf:Fine C) (ho:OkP C P):qb C P=match jJ C P with
  | none=>[]
  | some P'=>(if (P'.length==C.O.length)=true∧jE C P'=false then [jc C P'] else [])++qb C P':=by
 have h0:=visit_eq he hf (qu C P) P ho rfl (qu C P) (qu C P+1) (Nat.le_refl _) (by omega)
 unfold qb
 rw[h0]
 simp only[visit]
 cases hn:jJ C P with
 | none=>rfl
 | some P' =>
  have h1:=fuelP_lt he hf ho hn
  simp only
  rw[visit_eq he hf (qu C P') P' (nextP_ok he hf ho hn) rfl (qu C P) (qu C P') (by omega) (Nat.le_refl _)]
end
section
open Go Go.RowKit
theorem filter_parts {α:Type} (p:α→Bool):∀l:List α,(l.filter p).length+(l.filter (fun x=>!p x)).length=l.length
 | []=>rfl
 | x :: l=>by
  have:=filter_parts p l
  by_cases h:p x=true
  ·simp[h];omega
  ·have h':p x=false:=by simpa using h
   simp[h'];omega
theorem even_of {g:List Int} (hn:∀k:Nat,k<g.length→0≤g[k]?.getD 0∧g[k]?.getD 0≤g.length) (hd:∀i j:Nat,i<j→j<g.length→0<g[j]?.getD 0→g[i]?.getD 0≠g[j]?.getD 0):(zh g).length=(zj g).length:=by
 have h1:=filter_parts (fun (i:Nat)=>g[i]?.getD 0==0) (List.range g.length)
 have h2:=filter_parts (fun (i:Nat)=>!zY g ((i:Int)+1)) (List.range g.length)
 rw[List.length_range] at h1 h2
 have hA:(((List.range g.length).filter (fun (i:Nat)=>!(g[i]?.getD 0==0))).map (fun i=>g[i]?.getD 0)).Nodup:=by
  refine List.Pairwise.map _ (fun (i j:Nat) h=>h) (R:=fun (i j:Nat)=>g[i]?.getD 0≠g[j]?.getD 0) ?_
  have hp:(List.range g.length).Pairwise (fun i j=>i<j∧j<g.length):=by
   rw[List.pairwise_iff_getElem]
   intro i j hi hj hij
   rw[List.length_range] at hi hj
   simp only[List.getElem_range]
   exact ⟨hij,hj⟩
  refine List.Pairwise.imp_of_mem ?_ (hp.filter _)
  intro i j _ hj hij
  have hj2:=(List.mem_filter.1 hj).2
  simp only[Bool.not_eq_true',beq_eq_false_iff_ne,ne_eq] at hj2
  have:=(hn j hij.2).1
  exact hd i j hij.1 hij.2 (by omega)
 have hB:(((List.range g.length).filter (fun (i:Nat)=>!!zY g ((i:Int)+1))).map (fun (i:Nat)=>(i:Int)+1)).Nodup:=by
  refine List.Pairwise.map _ (fun (a b:Nat) h=>?_) (List.Pairwise.filter _ List.nodup_range)
  omega
 have hAB:=nodup_le hA (m:=((List.range g.length).filter (fun (i:Nat)=>!!zY g ((i:Int)+1))).map (fun (i:Nat)=>(i:Int)+1)) (by
  intro x hx
  obtain ⟨i,hi,rfl⟩:=List.mem_map.1 hx
  rw[List.mem_filter,List.mem_range] at hi
  have h3:=hn i hi.1
  have h4:=hi.2
  simp only[Bool.not_eq_true',beq_eq_false_iff_ne,ne_eq] at h4
  refine List.mem_map.2 ⟨(g[i]?.getD 0 - 1).toNat,?_,by omega⟩
  rw[List.mem_filter,List.mem_range]
  refine ⟨by omega,?_⟩
  rw[Bool.not_not,show (((g[i]?.getD 0 - 1).toNat:Nat):Int)+1=g[i]?.getD 0 from by omega,js,List.getElem?_eq_getElem hi.1]
  exact List.getElem_mem hi.1)
 have hBA:=nodup_le hB (m:=((List.range g.length).filter (fun (i:Nat)=>!(g[i]?.getD 0==0))).map (fun i=>g[i]?.getD 0)) (by
  intro x hx
  obtain ⟨i,hi,rfl⟩:=List.mem_map.1 hx
  rw[List.mem_filter,List.mem_range,Bool.not_not,js] at hi
  obtain ⟨k,hk,hgk⟩:=List.getElem_of_mem hi.2
  refine List.mem_map.2 ⟨k,?_,by rw[List.getElem?_eq_getElem hk];exact hgk⟩
  rw[List.mem_filter,List.mem_range]
  refine ⟨hk,?_⟩
  rw[List.getElem?_eq_getElem hk,Option.getD_some,hgk]
  simp
  omega)
 rw[List.length_map,List.length_map] at hAB hBA
 simp only[zh,jy,zj,jM,List.length_map]
 omega
end
section
open Go Go.RowKit
structure GoodTask (cells:Int) (ls:List (List Int)) (sum:Int) (g:List Int):Prop where
  cells1:1≤cells
  cells2:cells≤256
  lines:ls.length≤128
  sum1:1≤sum
  sum2:sum≤999999999
  len:(g.length:Int)=cells
  some:∀l,l∈ls→0<l.length
  mem:∀l,l∈ls→∀k:Nat,k<l.length→0≤l[k]?.getD 0∧l[k]?.getD 0<cells
  asc:∀l,l∈ls→∀k:Nat,0<k→k<l.length→l[k - 1]?.getD 0<l[k]?.getD 0
  num:∀i:Nat,i<g.length→0≤g[i]?.getD 0∧g[i]?.getD 0≤cells
  apart:∀i j:Nat,i<j→j<g.length→0<g[j]?.getD 0→g[i]?.getD 0≠g[j]?.getD 0
theorem qg {cells:Int} {ls:List (List Int)} {sum:Int} {g:List Int} (h:zx cells ls sum g=0):GoodTask cells ls sum g:=by
  unfold zx at h
  by_cases h1:zX cells ls≠0
  · rw[if_pos h1] at h;exact absurd h h1
  rw[if_neg h1] at h
  by_cases h2:sum<1∨sum>999999999
  · rw[if_pos h2] at h;exact absurd h (by decide)
  rw[if_neg h2] at h
  by_cases h3:(g.length:Int)≠cells
  · rw[if_pos h3] at h;exact absurd h (by decide)
  rw[if_neg h3] at h
  have hs:zX cells ls=0:=by omega
  unfold zX at hs
  by_cases h4:cells<1∨cells>256
  · rw[if_pos h4] at hs;exact absurd hs (by decide)
  rw[if_neg h4] at hs
  by_cases h5:ls.length>128
  · rw[if_pos h5] at hs;exact absurd hs (by decide)
  rw[if_neg h5] at hs
  have hg:=ki h
  have hL:=ki hs
  have hline:∀l,l∈ls→0<l.length∧∀k,k<l.length→jt cells l k=0:=by
    intro l hl
    obtain ⟨i,hi,rfl⟩:=List.getElem_of_mem hl
    have h6:=hL i hi
    unfold jF at h6
    rw[List.getElem?_eq_getElem hi,Option.getD_some] at h6
    by_cases h7:ls[i].length=0
    · rw[if_pos h7] at h6;exact absurd h6 (by decide)
    rw[if_neg h7] at h6
    by_cases h8:qQ (jt cells ls[i]) ls[i].length≠0
    · rw[if_pos h8] at h6;exact absurd h6 h8
    exact ⟨by omega,ki (by omega)⟩
  have hgiven:∀i:Nat,i<g.length→(0≤g[i]?.getD 0∧g[i]?.getD 0≤cells)∧(0<g[i]?.getD 0→zY (g.take i) (g[i]?.getD 0)=false):=by
    intro i hi
    have h6:=hg i hi
    unfold jn at h6
    by_cases h7:g[i]?.getD 0<0∨g[i]?.getD 0>cells
    · rw[if_pos h7] at h6;exact absurd h6 (by decide)
    rw[if_neg h7] at h6
    refine ⟨by omega,fun h9=>?_⟩
    by_cases h8:0<g[i]?.getD 0∧zY (g.take i) (g[i]?.getD 0)=true
    · rw[if_pos h8] at h6;exact absurd h6 (by decide)
    · rw[Bool.eq_false_iff];exact fun e=>h8 ⟨h9,e⟩
  have hbad:∀l,l∈ls→∀k,k<l.length→(0≤l[k]?.getD 0∧l[k]?.getD 0<cells)∧(0<k→l[k - 1]?.getD 0<l[k]?.getD 0):=by
    intro l hl k hk
    have h6:=(hline l hl).2 k hk
    unfold jt at h6
    by_cases h7:l[k]?.getD 0<0∨l[k]?.getD 0≥cells
    · rw[if_pos h7] at h6;exact absurd h6 (by decide)
    rw[if_neg h7] at h6
    by_cases h8:0<k∧l[k]?.getD 0≤l[k - 1]?.getD 0
    · rw[if_pos h8] at h6;exact absurd h6 (by decide)
    exact ⟨by omega,fun h9=>by omega⟩
  exact { cells1:=by omega,cells2:=by omega,lines:=by omega,sum1:=by omega,sum2:=by omega,len:=by omega,some:=fun l hl=>(hline l hl).1,
          mem:=fun l hl k hk=>(hbad l hl k hk).1,asc:=fun l hl k h0 hk=>(hbad l hl k hk).2 h0,num:=fun i hi=>(hgiven i hi).1,
          apart:=fun i j hij hj h0 e=>by
            have h6:=(hgiven j hj).2 h0
            rw[Bool.eq_false_iff] at h6
            apply h6
            rw[js,← e,List.getElem?_eq_getElem (by omega),Option.getD_some]
            rw[List.mem_take_iff_getElem]
            exact ⟨i,by omega,rfl⟩ }
theorem GoodTask.lineLen {cells:Int} {ls:List (List Int)} {sum:Int} {g:List Int} (h:GoodTask cells ls sum g) {l:List Int} (hl:l∈ls):l.length≤1000∧∀x,x∈l→0≤x∧x<cells:=by
  have key:∀k:Nat,k<l.length→(k:Int)≤l[k]?.getD 0:=by
    intro k
    induction k with
    | zero=>intro hk;exact (h.mem l hl 0 hk).1
    | succ k ih =>
      intro hk
      have h1:=ih (by omega)
      have h2:=h.asc l hl (k+1) (by omega) hk
      simp only[Nat.add_sub_cancel] at h2
      omega
  have h0:=h.some l hl
  have h1:=key (l.length - 1) (by omega)
  have h2:=(h.mem l hl (l.length - 1) (by omega)).2
  have h3:=h.cells2
  refine ⟨by omega,fun x hx=>?_⟩
  obtain ⟨k,hk,rfl⟩:=List.getElem_of_mem hx
  have:=h.mem l hl k hk
  rwa [List.getElem?_eq_getElem hk] at this
theorem GoodTask.even {cells:Int} {ls:List (List Int)} {sum:Int} {g:List Int} (h:GoodTask cells ls sum g):(zh g).length=(zj g).length :=
  even_of (fun k hk=>by have:=h.num k hk;have:=h.len;omega) h.apart
theorem GoodTask.fine {C:Cst} (h:GoodTask C.cells C.ls C.sum C.g) (hl:C.g.length=C.n'):Fine C where
  len:=hl
  most:=by have:=h.len;have:=h.cells2;omega
  num:=fun k=>by
    by_cases hk:k<C.g.length
    · have:=h.num k hk
      have:=h.cells2
      omega
    · rw[List.getElem?_eq_none (by omega)];decide
  line:=fun l hl2=>by
    have h1:=h.lineLen hl2
    have h2:=h.len
    exact ⟨h1.1,fun x hx=>by have:=h1.2 x hx;omega⟩
theorem GoodTask.step {cells:Int} {ls:List (List Int)} {sum:Int} {g:List Int} (h:GoodTask cells ls sum g) {l:List Int} (hl:l∈ls):∀(j k:Nat),j+k<l.length→l[j]?.getD 0+k≤l[j+k]?.getD 0:=by
  intro j k
  induction k with
  | zero=>intro _;simp
  | succ k ih =>
    intro hk
    have h1:=ih (by omega)
    have h2:=h.asc l hl (j+k+1) (by omega) (by omega)
    simp only[Nat.add_sub_cancel] at h2
    rw[show j+(k+1)=j+k+1 from by omega]
    omega
theorem GoodTask.lineShort {cells:Int} {ls:List (List Int)} {sum:Int} {g:List Int} (h:GoodTask cells ls sum g) {l:List Int} (hl:l∈ls):(l.length:Int)≤cells:=by
  have h0:=h.some l hl
  have h1:=h.step hl 0 (l.length - 1) (by omega)
  have h2:=h.mem l hl 0 h0
  have h3:=h.mem l hl (0+(l.length - 1)) (by omega)
  omega
end
section
open Go Go.RowKit
structure StaysL (L:Nat) (M:Nat→Prop) (w w':World):Prop where
 os:w'.os=w.os
 tape:w'.tape=w.tape
 output:w'.output=w.output
 size:w.heap.size≤w'.heap.size
 block:∀k o,w.heap[k]?=some o→¬M k→(k<L∨o.isCells=true)→w'.heap[k]?=some o
theorem Stays.toL {M:Nat→Prop} {w w':World} (h:Stays M w w') (L:Nat):StaysL L M w w' :=
 ⟨h.os,h.tape,h.output,h.size,fun k _ ho hm _=>(h.block k (Array.getElem?_eq_some_iff.1 ho).1 hm).trans ho⟩
theorem StaysL.putObj {L:Nat} (M:Nat→Prop) {w:World} {l:Nat} {o:Obj} (o':Obj) (hL:L≤l) (hl:w.heap[l]?=some o) (ho:o.isCells=false):StaysL L M w (w.putObj l o') :=
 ⟨rfl,rfl,rfl,by simp,fun k o2 h2 _ hk=>by
  have:k≠l:=by
   rintro rfl
   rw[hl] at h2;cases h2
   rcases hk with h|h
   ·omega
   ·rw[ho] at h;cases h
  exact (World.putObj_heap_other this).trans h2⟩
theorem StaysL.alloc (L:Nat) (M:Nat→Prop) (w:World) (o:Obj):StaysL L M w (w.alloc o) :=
 ⟨rfl,rfl,rfl,by simp,fun k o2 h2 _ _=>(Below.heap_alloc w o k (Array.getElem?_eq_some_iff.1 h2).1).trans h2⟩
theorem StaysL.trans {L:Nat} {M:Nat→Prop} {a b c:World} (h:StaysL L M a b) (k:StaysL L M b c):StaysL L M a c :=
 ⟨k.os.trans h.os,k.tape.trans h.tape,k.output.trans h.output,Nat.le_trans h.size k.size,fun i o hi hm hc=>k.block i o (h.block i o hi hm hc) hm hc⟩
theorem StaysL.owns {L:Nat} {M:Nat→Prop} {w w':World} (h:StaysL L M w w') {base:Nat} {e:TypeId} {size:Nat} {v:Value} {n:Nat} {xs:List Value} (ho:w.ownsRow base e size v n xs) (hm:∀k,v.ownBlock=some k→¬M k):w'.ownsRow base e size v n xs:=by
 refine ⟨ho.1,ho.2.imp id ?_⟩
 rintro ⟨g,cap,cur,rfl,hb,hh,r⟩
 exact ⟨g,cap,cur,rfl,hb,h.block g _ hh (hm g rfl) (.inr rfl),r⟩
theorem StaysL.at {L:Nat} {M:Nat→Prop} {w w':World} (h:StaysL L M w w') {b:Nat} {vs:Array Value} {t:TypeId} {r:Nat × Nat} (hb:w.heap[b]?=some (.cells vs t r)) (hm:¬M b):w'.heap[b]?=some (.cells vs t r) :=
 h.block b _ hb hm (.inr rfl)
theorem StaysL.below {L:Nat} {M:Nat→Prop} {w w':World} (h:StaysL L M w w') {B:Nat} {w0:World} (hb:Below B w0 w) (hL:B≤L) (h0:B≤w0.heap.size) (hm:∀k,M k→B≤k):Below B w0 w' :=
 ⟨h.os.trans hb.os,h.tape.trans hb.tape,h.output.trans hb.output,Nat.le_trans hb.size h.size,fun k hk=>by
  have h1:=hb.block k hk
  have h2:k<w0.heap.size:=by omega
  rw[Array.getElem?_eq_getElem h2] at h1 ⊢
  exact h.block k _ h1 (fun e=>by have:=hm k e;omega) (.inl (by omega))⟩
def StableL {β:Type} (L:Nat) (J:β→(Nat→Prop)→World→Prop):Prop :=
 ∀s M M' W W',J s M W→StaysL L M W W'→(∀k,M' k→M k∨W.heap.size≤k)→J s M' W'
def StableM {β:Type} (J:β→(Nat→Prop)→World→Prop):Prop :=
 ∀s M M' W W',J s M W→Stays M W W'→(∀k,M' k→M k∨W.heap.size≤k)→J s M' W'
theorem StableL.m {β:Type} {L:Nat} {J:β→(Nat→Prop)→World→Prop} (h:StableL L J):StableM J:=fun s M M' W W' hj hs hm=>h s M M' W W' hj (hs.toL L) hm
def SeqM {α:Type} (P:Program) (g:Nat) (lb:Array Value) (encs:α→Array Value) (New:α→World→Prop) (Given:α→(Nat→Prop)→World→Prop) (Kp:(Nat→Prop)→World→World→Prop) (S Sp:List α→Prop) (M0:Nat→Prop) (w0:World):Prop :=
 ∀(l:Nat) (J Jx:List α→(Nat→Prop)→World→Prop) (W:World),Below w0.heap.size w0 W→StableM J→StableM Jx →
  (∀pre x M W0 W1,J pre M W0→Below W0.heap.size W0 W1→New x W0→Given x M W1→YieldAt Fence.wide 0 P l (encs x) W1 fun e W' =>
   (e = .returned (.bool true)∧J (pre++[x]) M W'∧Kp M W1 W')∨(e = .returned (.bool false)∧Jx (pre++[x]) M W'∧Kp M W1 W')) →
  J [] M0 W →
  Calls P g (#[.func (.yield l) #[] #[]]++lb) W fun e W'=>(∃v,e = .returned v)∧((∃xs M,S xs∧J xs M W')∨(∃pre M,Sp pre∧Jx pre M W'))
def ownPostM {α:Type} (Kp:(Nat→Prop)→World→World→Prop) (I:List α→(Nat→Prop)→World→Prop) (Ix:Code→List α→(Nat→Prop)→World→Prop) (xs:List α) (M:Nat→Prop) (W:World):Exit→Act→World→Prop
 | .normal,_,W'=>KeepsOthers W W'∧Kp M W W'∧I xs M W'
 | .ret,_,W'=>KeepsOthers W W'∧Kp M W W'∧Ix .ret xs M W'
 | .exit id,_,W'=>KeepsOthers W W'∧Kp M W W'∧Ix (.exit id) xs M W'
 | .goto t,_,W'=>KeepsOthers W W'∧Kp M W W'∧Ix (.goto t) xs M W'
 | .panic _,_,_=>False
 | .outgrown,_,_=>False
variable {P:Program}
theorem wp_rangeFunc_M {α:Type} {g:Operand} {ps:Array Tmp} {assign body:Code} {Q:Exit→Act→World→Prop} {a:Act} {w:World}
  {gf:Nat} {lb:Array Value} (hg:a.eval g = .func (.func gf) #[] lb) (eg:∀args w,(callFunc gf args).run P w = .ok (.enter gf args) w)
  {encs:α→Array Value} {New:α→World→Prop} {Given:α→(Nat→Prop)→World→Prop} {Kp:(Nat→Prop)→World→World→Prop} {S Sp:List α→Prop} {M0:Nat→Prop} (hseq:SeqM P gf lb encs New Given Kp S Sp M0 w)
  (hM0:∀k,M0 k→k<w.heap.size)
  (hGb:∀x M (W:World) l o o',Given x M W→w.heap.size≤l→¬M l→W.heap[l]?=some o→o.isCells=false→Given x M (W.putObj l o'))
  (hKt:∀{M:Nat→Prop} {A B C:World},Kp M A B→Kp M B C→Kp M A C) (hKb:∀(M:Nat→Prop) (W:World) (l:Nat) (o o':Obj),w.heap.size≤l→¬M l→W.heap[l]?=some o→o.isCells=false→Kp M W (W.putObj l o')) (hps:∀x,(encs x).size=ps.size)
  (I:List α→(Nat→Prop)→World→Prop) (Ix:Code→List α→(Nat→Prop)→World→Prop) (hI:StableL w.heap.size I) (hIx:∀c,StableL w.heap.size (Ix c)) (h0:I [] M0 w) (a₁:α→Act)
  (hassign:∀(l:Nat) (x:α) (W:World) (K:Act→World→Prop),K (a₁ x) W →
   assign.wpIn (Fence.wide.inRound l) 0 P (Exit.then K (fun _ _ _=>False)) { tmps:=(ps.zip (encs x)).foldl (fun t (p,v)=>t.setIfInBounds p v) a.tmps,defers:=[] } W)
  (hbody:∀(l:Nat) (pre:List α) (x:α) (M:Nat→Prop) (W0 W:World),I pre M W0→StaysL w.heap.size (fun _=>False) W0 W→New x W0→Given x M W→body.wpIn (Fence.wide.inRound l) 0 P (ownPostM Kp I Ix (pre++[x]) M W) (a₁ x) W)
  (hdone:∀(D:Nat) (xs:List α) (M:Nat→Prop) (W:World),w.heap.size≤D→S xs→I xs M W→W.heap[D]?=some (.deferred (some []))→Q .normal { a with defers:={ target := .collected D,args:=#[] } :: a.defers } W)
  (hstop:∀(D:Nat) (c:Code) (pre:List α) (M:Nat→Prop) (W:World),w.heap.size≤D→Sp pre→Ix c pre M W→W.heap[D]?=some (.deferred (some []))→c.wp P Q { a with defers:={ target := .collected D,args:=#[] } :: a.defers } W) :
  (Code.rangeFunc g ps assign body).wp P Q a w:=by
 refine (wpIn_wide (n:=0)).1 (wpIn_rangeFunc ?_)
 intro fn hfn
 rw[show Fence.wide.round=none from rfl]
 obtain ⟨rec,hrec⟩:∃rec:LoopState→Option Code→Loop,rec=fun st pe=>{ state:=st,pending:=pe,fn,tmps:=a.tmps,params:=ps,assign,body,defers:=w.heap.size }:=⟨_,rfl⟩
 obtain ⟨W1,hW1⟩:∃W1,(w.alloc (.deferred (some []))).alloc (.loop (rec .ready none))=W1:=⟨_,rfl⟩
 have hL1:W1.heap[w.heap.size+1]?=some (.loop (rec .ready none)):=by
  rw[← hW1];have:=World.alloc_heap_new (w.alloc (.deferred (some []))) (.loop (rec .ready none));rwa [World.size_alloc] at this
 have hK1:W1.heap[w.heap.size]?=some (.deferred (some [])):=by
  rw[← hW1];exact (Below.heap_alloc _ _ _ (by simp)).trans (World.alloc_heap_new w _)
 have hI1:I [] M0 W1:=by
  rw[← hW1]
  exact hI _ M0 M0 _ _ (hI _ M0 M0 _ _ h0 (StaysL.alloc _ _ _ _) (fun k h => .inl h)) (StaysL.alloc _ _ _ _) (fun k h => .inl h)
 have hb1:Below w.heap.size w W1:=by
  rw[← hW1];exact ((Below.refl _ w).alloc (Nat.le_refl _) _).alloc (by simp) _
 have hm1:¬M0 (w.heap.size+1):=fun h=>by have:=hM0 _ h;omega
 have hm2:¬M0 w.heap.size:=fun h=>by have:=hM0 _ h;omega
 refine ⟨w.heap.size+1,[{ target := .collected w.heap.size,args:=#[] }],W1,{ target := .fn (.func gf) lb,args:=#[.func (.yield (w.heap.size+1)) #[] #[]] },W1,gf,
  #[.func (.yield (w.heap.size+1)) #[] #[]]++lb,W1,?_,?_,?_,?_,?_,?_⟩
 ·rw[← hW1,hrec];exact run_enterLoop_outer _ _ _ _ _
 ·simp only[resolve,hg]
  simp[go_sem]
 ·intro f' hf';exact trivial
 ·simp[invoke,go_sem,eg]
 ·intro h;exact absurd h (by simp[Fence.wide])
 ·refine callsIn_wide.2 ?_
  refine (hseq (w.heap.size+1)
   (fun pre M W=>I pre M W∧W.heap[w.heap.size+1]?=some (.loop (rec .ready none))∧W.heap[w.heap.size]?=some (.deferred (some []))∧¬M (w.heap.size+1)∧¬M w.heap.size)
   (fun pre M W=>∃c,Ix c pre M W∧W.heap[w.heap.size+1]?=some (.loop (rec .done (some c)))∧W.heap[w.heap.size]?=some (.deferred (some []))∧¬M (w.heap.size+1)∧¬M w.heap.size)
   W1 hb1 ?_ ?_ ?_ ⟨hI1,hL1,hK1,hm1,hm2⟩).mono ?_
  ·rintro s M M' A B ⟨hi,hl,hk,h1,h2⟩ hs hm
   have hlt:=(Array.getElem?_eq_some_iff.1 hl).1
   refine ⟨hI.m s M M' A B hi hs hm,(hs.block _ hlt h1).trans hl,(hs.block _ (by omega) h2).trans hk,fun e=>(hm _ e).elim h1 (fun h=>by omega),fun e=>(hm _ e).elim h2 (fun h=>by omega)⟩
  ·rintro s M M' A B ⟨c,hi,hl,hk,h1,h2⟩ hs hm
   have hlt:=(Array.getElem?_eq_some_iff.1 hl).1
   refine ⟨c,(hIx c).m s M M' A B hi hs hm,(hs.block _ hlt h1).trans hl,(hs.block _ (by omega) h2).trans hk,fun e=>(hm _ e).elim h1 (fun h=>by omega),fun e=>(hm _ e).elim h2 (fun h=>by omega)⟩
  ·rintro pre x M W0 W ⟨hi,hl0,hk0,h1,h2⟩ hbl hnew hgiv
   have hlt0:w.heap.size+1<W0.heap.size:=(Array.getElem?_eq_some_iff.1 hl0).1
   have hl:=(hbl.block _ hlt0).trans hl0
   have hk:=(hbl.block _ (show w.heap.size<W0.heap.size by omega)).trans hk0
   have hlt:w.heap.size+1<W.heap.size:=(Array.getElem?_eq_some_iff.1 hl).1
   have hy:=run_yield (P:=P) (args:=encs x) hl (by rw[hrec];exact hps x)
   rw[hrec] at hy
   refine ⟨fn,_,assign,body,hy,roundIn_of_wpIn hfn (hassign _ x W _ ⟨_,run_beginRound hl (by rw[hrec]),?_⟩)⟩
   have hl2:(W.putObj (w.heap.size+1) (.loop { rec .ready none with state := .busy })).heap[w.heap.size+1]?=some (.loop { rec .ready none with state := .busy }):=World.putObj_heap_same hlt
   have hk2:(W.putObj (w.heap.size+1) (.loop { rec .ready none with state := .busy })).heap[w.heap.size]?=some (.deferred (some [])):=(World.putObj_heap_other (by omega)).trans hk
   have hw2:Kp M W (W.putObj (w.heap.size+1) (.loop { rec .ready none with state := .busy })):=hKb _ _ _ _ _ (by omega) h1 hl rfl
   refine wpIn_mono (hbody _ pre x M W0 _ hi (((Below.stays hbl (fun _=>False)).toL _).trans (StaysL.putObj _ _ (by omega) hl rfl)) hnew (hGb _ _ _ _ _ _ hgiv (by omega) h1 hl rfl)) ?_
   have fin:∀(jump:Option Code) (W3:World),KeepsOthers (W.putObj (w.heap.size+1) (.loop { rec .ready none with state := .busy })) W3 →
     (Instr.endRound (w.heap.size+1) jump).run P W3 = .ok (.bool jump.isNone) (W3.putObj (w.heap.size+1) (.loop (rec (if jump.isNone then .ready else .done) jump))) ∧
     W3.heap[w.heap.size+1]?=some (.loop { rec .ready none with state := .busy }) ∧
     (W3.putObj (w.heap.size+1) (.loop (rec (if jump.isNone then .ready else .done) jump))).heap[w.heap.size+1]?=some (.loop (rec (if jump.isNone then .ready else .done) jump)) ∧
     (W3.putObj (w.heap.size+1) (.loop (rec (if jump.isNone then .ready else .done) jump))).heap[w.heap.size]?=some (.deferred (some [])):=fun jump W3 hk3=>by
    have hl3:=hk3.same _ _ hl2 rfl
    have:=run_endRound (P:=P) jump hl3
    rw[hrec] at this ⊢
    exact ⟨this,by rw[hrec] at hl3;exact hl3,World.putObj_heap_same (Array.getElem?_eq_some_iff.1 hl3).1,(World.putObj_heap_other (by omega)).trans (hk3.same _ _ hk2 rfl)⟩
   rintro e a3 W3 hp
   cases e with
   | normal =>
    obtain ⟨hk3,hkp3,hi3⟩:=hp
    obtain ⟨hr,hl3,hl4,hk4⟩:=fin none W3 hk3
    exact ⟨_,_,hr,.inl ⟨rfl,⟨hI _ M M _ _ hi3 (StaysL.putObj M _ (by omega) hl3 rfl) (fun k h => .inl h),hl4,hk4,h1,h2⟩,hKt (hKt hw2 hkp3) (hKb _ _ _ _ _ (by omega) h1 hl3 rfl)⟩⟩
   | ret =>
    obtain ⟨hk3,hkp3,hi3⟩:=hp
    obtain ⟨hr,hl3,hl4,hk4⟩:=fin (some .ret) W3 hk3
    exact ⟨_,_,hr,.inr ⟨rfl,⟨.ret,hIx _ _ M M _ _ hi3 (StaysL.putObj M _ (by omega) hl3 rfl) (fun k h => .inl h),hl4,hk4,h1,h2⟩,hKt (hKt hw2 hkp3) (hKb _ _ _ _ _ (by omega) h1 hl3 rfl)⟩⟩
   | exit id =>
    obtain ⟨hk3,hkp3,hi3⟩:=hp
    obtain ⟨hr,hl3,hl4,hk4⟩:=fin (some (.exit id)) W3 hk3
    exact ⟨_,_,hr,.inr ⟨rfl,⟨.exit id,hIx _ _ M M _ _ hi3 (StaysL.putObj M _ (by omega) hl3 rfl) (fun k h => .inl h),hl4,hk4,h1,h2⟩,hKt (hKt hw2 hkp3) (hKb _ _ _ _ _ (by omega) h1 hl3 rfl)⟩⟩
   | goto t =>
    obtain ⟨hk3,hkp3,hi3⟩:=hp
    obtain ⟨hr,hl3,hl4,hk4⟩:=fin (some (.goto t)) W3 hk3
    exact ⟨_,_,hr,.inr ⟨rfl,⟨.goto t,hIx _ _ M M _ _ hi3 (StaysL.putObj M _ (by omega) hl3 rfl) (fun k h => .inl h),hl4,hk4,h1,h2⟩,hKt (hKt hw2 hkp3) (hKb _ _ _ _ _ (by omega) h1 hl3 rfl)⟩⟩
   | panic ch=>exact hp.elim
   | outgrown=>exact hp.elim
  ·rintro e W2 ⟨⟨v,rfl⟩,(⟨xs,M,hS,hi,hl,hk,h1,h2⟩|⟨pre,M,hSp,c,hi,hl,hk,h1,h2⟩)⟩
   ·exact ⟨none,_,by have:=run_endLoop (P:=P) hl (by rw[hrec];simp);rw[hrec] at this;exact this,hdone _ xs M _ (Nat.le_refl _) hS (hI _ M M _ _ hi (StaysL.putObj M _ (by omega) hl rfl) (fun k h => .inl h)) ((World.putObj_heap_other (by omega)).trans hk)⟩
   ·exact ⟨some c,_,by have:=run_endLoop (P:=P) hl (by rw[hrec];simp);rw[hrec] at this;exact this,wpIn_wide.2 (hstop _ c pre M _ (Nat.le_refl _) hSp (hIx c _ M M _ _ hi (StaysL.putObj M _ (by omega) hl rfl) (fun k h => .inl h)) ((World.putObj_heap_other (by omega)).trans hk))⟩
end
section
open Go Go.RowKit
attribute [local go_sem] zv
attribute [local go_sem] Oper.semAt_some
theorem wide_fn (f:FuncId):Fence.wide.fn f:=trivial
theorem qi:Fence.wide.depth=none:=rfl
theorem qW {o:Option FuncId}:∀f,o=some f→Fence.wide.fn f:=fun _ _=>trivial
def sols (C:Cst) (P:List Int):List (List Int):=if C.O.length=0 then (if jE C P=true then [] else [jc C P]) else qb C P
def KbS (Im:Nat→Prop) (bx:Nat) (M:Nat→Prop) (k:Nat):Prop:=Im k∨M k∨k=bx
def KpS (Im:Nat→Prop) (bx:Nat) (M:Nat→Prop) (A B:World):Prop:=A.heap.size≤B.heap.size∧∀k,k<A.heap.size→KbS Im bx M k→B.heap[k]?=A.heap[k]?
def NewS (x:Value × List Int) (W0:World):Prop:=∀k,x.1.ownBlock=some k→W0.heap.size≤k
def GivenS (Im:Nat→Prop) (bx base:Nat) (x:Value × List Int) (M:Nat→Prop) (W:World):Prop :=
 W.ownsRow base 3 1 x.1 x.2.length (x.2.map (Value.int .i64))∧(∀k,x.1.ownBlock=some k→¬KbS Im bx M k)∧∀k,M k→k<W.heap.size
def encS (x:Value × List Int):Array Value:=#[x.1]
theorem GivenS.putObj {Im:Nat→Prop} {bx base:Nat} {x:Value × List Int} {M:Nat→Prop} {W:World} {l:Nat} {o o':Obj} (h:GivenS Im bx base x M W) (hl:W.heap[l]?=some o) (ho:o.isCells=false):GivenS Im bx base x M (W.putObj l o') :=
 ⟨(StaysL.putObj (L:=l) (fun _=>False) o' (Nat.le_refl _) hl ho).owns h.1 (fun _ _ e=>e),h.2.1,fun k hk=>Nat.lt_of_lt_of_le (h.2.2 k hk) (grownBy_putObj' W l o').size⟩
theorem KpS.trans {Im:Nat→Prop} {bx:Nat} {M:Nat→Prop} {A B C:World} (h:KpS Im bx M A B) (k:KpS Im bx M B C):KpS Im bx M A C :=
 ⟨Nat.le_trans h.1 k.1,fun i hi hk=>(k.2 i (Nat.lt_of_lt_of_le hi h.1) hk).trans (h.2 i hi hk)⟩
theorem KpS.putObj {Im:Nat→Prop} {bx:Nat} {M:Nat→Prop} {W:World} {l n:Nat} (o':Obj) (hI:∀k,Im k→k<n) (hbx:bx<n) (hl:n≤l) (hm:¬M l):KpS Im bx M W (W.putObj l o') :=
 ⟨by simp,fun k _ hk=>World.putObj_heap_other (by
  rintro rfl
  rcases hk with hk|hk|hk
  ·have:=hI _ hk;omega
  ·exact hm hk
  ·omega)⟩
theorem KpS.setCell {Im:Nat→Prop} {bx:Nat} {M:Nat→Prop} {W:World} {b i:Nat} (v:Value) (hb:¬KbS Im bx M b):KpS Im bx M W (W.setCell ⟨b,i,none⟩ v) :=
 ⟨(KeepsOthers.setCell W _ v).size,fun k _ hk=>Below.heap_setCell _ _ _ _ (fun e=>hb (by simp only at e;rw[← e];exact hk))⟩
def SolRel (b bx base:Nat) (Im:Nat→Prop) (C:Cst) (vf:Value) (J:List (Value × List Int)→(Nat→Prop)→World→Prop) (L:List (List Int)) (wr:World) (k:Nat):Prop :=
 ∃pre P vp,k=qu C P∧SR wr b Im C vf vp P∧wr.cell? ⟨bx,0,none⟩=some (.pointer (some ⟨b,0,none⟩))∧bx<wr.heap.size∧¬Mut b vf vp bx∧base≤wr.heap.size∧J pre (Mut b vf vp) wr∧pre.map Prod.snd++qb C P=L
theorem Mut.new {b:Nat} {vf vp vp':Value} {n:Nat} (h:∀k,vp'.ownBlock=some k→vp.ownBlock=some k∨n≤k):∀k,Mut b vf vp' k→Mut b vf vp k∨n≤k:=by
 rintro k (e|e|e)
 ·exact .inl (.inl e)
 ·exact .inl (.inr (.inl e))
 ·exact (h k e).imp (fun e => .inr (.inr e)) id
theorem SR.mutLt {w:World} {b:Nat} {Im:Nat→Prop} {C:Cst} {vf vp:Value} {P:List Int} (h:SR w b Im C vf vp P) {k:Nat} (hk:Mut b vf vp k):k<w.heap.size:=by
 rcases hk with e|e|e
 ·rw[e];exact h.lt
 ·exact (h.f.lt _ e).2
 ·exact (h.p.lt _ e).2
def Bun (b bx base:Nat) (Im:Nat→Prop) (C:Cst) (vf:Value) (J:List (Value × List Int)→(Nat→Prop)→World→Prop) (P:List Int) (pre:List (Value × List Int)) (vp:Value) (w:World):Prop :=
 w.cell? ⟨bx,0,none⟩=some (.pointer (some ⟨b,0,none⟩))∧bx<w.heap.size∧b<w.heap.size∧base≤w.heap.size∧¬Mut b vf vp bx∧Hid (SR w b Im C vf vp P)∧Hid (J pre (Mut b vf vp) w)
theorem Bun.below {b bx base:Nat} {Im:Nat→Prop} {C:Cst} {vf:Value} {J:List (Value × List Int)→(Nat→Prop)→World→Prop} {P:List Int} {pre:List (Value × List Int)} {vp:Value} {w w':World} (hJ:StableM J)
  (h:Bun b bx base Im C vf J P pre vp w) (hb:Below w.heap.size w w'):Bun b bx base Im C vf J P pre vp w':=by
 obtain ⟨h1,h2,h3,h4,h5,h6,h7⟩:=h
 have hs:=hb.size
 exact ⟨((zF hb).1 _ _ h2).trans h1,by omega,by omega,by omega,h5,za (h6.out.below hb),za (hJ _ _ _ _ _ h7.out (Below.stays hb _) (fun k e => .inl e))⟩
theorem Bun.rel {b bx base:Nat} {Im:Nat→Prop} {C:Cst} {vf:Value} {J:List (Value × List Int)→(Nat→Prop)→World→Prop} {P:List Int} {pre:List (Value × List Int)} {vp:Value} {w:World} {L:List (List Int)}
  (h:Bun b bx base Im C vf J P pre vp w) (hL:pre.map Prod.snd++qb C P=L):SolRel b bx base Im C vf J L w (qu C P):=by
 obtain ⟨h1,h2,h3,h4,h5,h6,h7⟩:=h
 exact ⟨pre,P,vp,rfl,h6.out,h1,h2,h5,h4,h7.out,hL⟩
theorem SolRel.meas {b bx base:Nat} {Im:Nat→Prop} {C:Cst} {vf:Value} {J:List (Value × List Int)→(Nat→Prop)→World→Prop} {L:List (List Int)} {w:World} {k m n:Nat}
  (h:SolRel b bx base Im C vf J L w k) (hk:k<m) (hm:n=m):leastOf (SolRel b bx base Im C vf J L w)<n:=by
 rw[hm]
 exact Nat.lt_of_le_of_lt ((leastOf_spec ⟨k,h⟩).2 k h) hk
theorem sol1_c (b bx base:Nat) (Im:Nat→Prop) (C:Cst) (vf vp:Value) (P:List Int) (W:World) (h:SR W b Im C vf vp P) (he:Even C) (hx:W.cell? ⟨bx,0,none⟩=some (.pointer (some ⟨b,0,none⟩))) (hbx:bx<W.heap.size) (hnb:¬Mut b vf vp bx) (hbase:base≤W.heap.size)
  (l:Nat) (J Jx:List (Value × List Int)→(Nat→Prop)→World→Prop) (hJ:StableM J)
  (hY:∀pre x M W0 W1,J pre M W0→Below W0.heap.size W0 W1→NewS x W0→GivenS Im bx base x M W1→YieldAt Fence.wide 0 Tryz.prog l (encS x) W1 fun e W' =>
   (e = .returned (.bool true)∧J (pre++[x]) M W'∧KpS Im bx M W1 W')∨(e = .returned (.bool false)∧Jx (pre++[x]) M W'∧KpS Im bx M W1 W'))
  (h0:J [] (Mut b vf vp) W) :
  Calls Tryz.prog 193 #[.func (.yield l) #[] #[],.pointer (some ⟨bx,0,none⟩)] W fun e W'=>(∃v,e = .returned v) ∧
   ((∃xs M,xs.map Prod.snd=sols C P∧J xs M W')∨(∃pre M,(pre.map Prod.snd <+: sols C P∧pre≠[])∧Jx pre M W')):=by
 have c4:=h.c4
 have hlt:=h.lt
 have H:=za h
 have HJ:=za hJ
 have HY:=za hY
 have H0:=za h0
 have HE:=za he
 clear h hJ hY h0 he
 by_cases hO:C.O.length=0
 ·have hOb:(((C.O.length:Nat):Int)==0)=true:=by rw[beq_iff_eq];omega
  have HW:=za ((wrong_c b Im C vf vp P W H.out).mono (fun e w' hh=>And.intro hh.1 (Bun.below (b:=b) (bx:=bx) (base:=base) (Im:=Im) (C:=C) (vf:=vf) (J:=J) (P:=P) (pre:=[]) (vp:=vp) HJ.out ⟨hx,hbx,hlt,hbase,hnb,H,H0⟩ hh.2)))
  obtain ⟨af,nf,cf,rfl⟩:∃af nf cf,vf = .slice af nf cf:=by
   obtain ⟨a,c,e⟩:=zr H.out.f
   exact ⟨_,_,_,e⟩
  by_cases hw:jE C P=true
  ·have HS:Hid (sols C P=[]):=by unfold Hid sols;rw[if_pos hO,if_pos hw]
   rw[hw] at HW
   clear hO hw
   refine (callsIn_wide (n:=0)).1 (callsIn_of_wp Tryz.func193 rfl trivial ?_ rfl)
   simp only[Tryz.ntmps193,List.size_toArray,List.length_cons,List.length_nil,Nat.reduceAdd,Nat.reduceSub,Array.replicate_succ,Array.replicate_zero,List.push_toArray,List.append_toArray,List.nil_append,List.cons_append]
   gi_wp2_with (first|(with_reducible refine ⟨wide_fn _,?_⟩)|(with_reducible refine ⟨qi,?_⟩)|(with_reducible refine ⟨qW,?_⟩)|(gi_at_call 133;refine (callsIn_wide.2 HW.out).mono ?_;rintro _ w3 ⟨rfl,hx3,hbx3,hlt3,hbs3,hm3,HS3,HJ3⟩;have c10:=HS3.out.c10))
   refine bodyPost_ret (results_none rfl _ _ _) rfl ?_
   exact ⟨⟨_,rfl⟩,.inl ⟨[],_,by rw[HS.out];rfl,HJ3.out⟩⟩
  ·have HS:Hid (sols C P=[jc C P]):=by unfold Hid sols;rw[if_pos hO,if_neg hw]
   have hw':jE C P=false:=by simpa using hw
   have HC:=za (fun w3 vp2 (hb:Bun b bx base Im C (.slice af nf cf) J P [] vp2 w3)=>(clone_c af nf cf (jc C P) w3 hb.2.2.2.2.2.1.out.ic.1).mono (fun e w' h=>show ∃v,e = .returned v∧YieldAt Fence.wide 0 Tryz.prog l #[v] w' (fun e W'=>(e = .returned (.bool true)∧Hid (∃xs M,xs.map Prod.snd=[jc C P]∧J xs M W'))∨(e = .returned (.bool false)∧Hid (∃pre' M,(pre'.map Prod.snd <+: [jc C P]∧pre'≠[])∧Jx pre' M W'))) from by
    obtain ⟨v,he,hown,hbl⟩:=h
    refine ⟨v,he,?_⟩
    obtain ⟨h1,h2,h3,h4,h5,h6,h7⟩:=hb
    refine YieldAt.mono (HY.out [] (v,jc C P) _ w3 w' h7.out hbl (fun k e=>(hown.lt k e).1) ⟨owns_up (zI hown (Nat.zero_le _)) (fun k e=>by have:=(hown.lt k e).1;omega),fun k e hk=>?_,fun k hk=>Nat.lt_of_lt_of_le (h6.out.mutLt hk) hbl.size⟩) ?_
    ·have hge:=(hown.lt k e).1
     rcases hk with hk|hk|hk
     ·have:=h6.out.imLt k hk;omega
     ·have:=h6.out.mutLt hk;omega
     ·omega
    ·rintro e5 W5 (⟨he5,hJ5,hk5⟩|⟨he5,hJ5,_⟩)
     ·exact .inl ⟨he5,za ⟨_,_,rfl,hJ5⟩⟩
     ·exact .inr ⟨he5,za ⟨_,_,⟨List.prefix_refl _,by simp⟩,hJ5⟩⟩))
   rw[hw'] at HW
   clear hO hw hw'
   refine (callsIn_wide (n:=0)).1 (callsIn_of_wp Tryz.func193 rfl trivial ?_ rfl)
   simp only[Tryz.ntmps193,List.size_toArray,List.length_cons,List.length_nil,Nat.reduceAdd,Nat.reduceSub,Array.replicate_succ,Array.replicate_zero,List.push_toArray,List.append_toArray,List.nil_append,List.cons_append]
   gi_wp2_with (first|(with_reducible refine ⟨wide_fn _,?_⟩)|(with_reducible refine ⟨qi,?_⟩)|(with_reducible refine ⟨qW,?_⟩)|(gi_at_call 133;refine (callsIn_wide.2 HW.out).mono ?_;rintro _ w3 ⟨rfl,hx3,hbx3,hlt3,hbs3,hm3,HS3,HJ3⟩;have c10:=HS3.out.c10)|(gi_at_call 71;refine (callsIn_wide.2 (HC.out _ _ ⟨hx3,hbx3,hlt3,hbs3,hm3,HS3,HJ3⟩)).mono ?_;rintro _ w4 ⟨v4,rfl,fn,tmps,assign,body,hy,hR⟩))
   refine hR.mono ?_
   rintro e5 w5 (⟨rfl,hr5⟩|⟨rfl,hr5⟩)
   ·gi_wp2_with (first|(with_reducible refine ⟨wide_fn _,?_⟩)|(with_reducible refine ⟨qi,?_⟩)|(with_reducible refine ⟨qW,?_⟩))
    refine bodyPost_ret (results_none rfl _ _ _) rfl ?_
    obtain ⟨xs,M,h1,h2⟩:=hr5.out
    exact ⟨⟨_,rfl⟩,.inl ⟨xs,M,by rw[HS.out];exact h1,h2⟩⟩
   ·gi_wp2_with (first|(with_reducible refine ⟨wide_fn _,?_⟩)|(with_reducible refine ⟨qi,?_⟩)|(with_reducible refine ⟨qW,?_⟩))
    refine bodyPost_ret (results_none rfl _ _ _) rfl ?_
    obtain ⟨pre',M,h1,h2⟩:=hr5.out
    exact ⟨⟨_,rfl⟩,.inr ⟨pre',M,by rw[HS.out];exact h1,h2⟩⟩
 ·have hOb:(((C.O.length:Nat):Int)==0)=false:=by rw[beq_eq_false_iff_ne];omega
  have HS:Hid (sols C P=qb C P):=if_neg hO
  have HO:=za hO
  clear hO
  refine (callsIn_wide (n:=0)).1 (callsIn_of_wp Tryz.func193 rfl trivial ?_ rfl)
  simp only[Tryz.ntmps193,List.size_toArray,List.length_cons,List.length_nil,Nat.reduceAdd,Nat.reduceSub,Array.replicate_succ,Array.replicate_zero,List.push_toArray,List.append_toArray,List.nil_append,List.cons_append]
  gi_wp2
  gi_loopw [] (fun wr=>∃k,SolRel b bx base Im C vf J (qb C P) wr k) (fun wr=>leastOf (SolRel b bx base Im C vf J (qb C P) wr))
  case atStart=>exact ⟨_,[],P,vp,rfl,H.out,hx,hbx,hnb,hbase,H0.out,by simp⟩
  case round =>
   have hsp:=(leastOf_spec hrel).1
   have HK:=za (rfl:leastOf (SolRel b bx base Im C vf J (qb C P) wr)=leastOf (SolRel b bx base Im C vf J (qb C P) wr))
   obtain ⟨pre,P1,vp1,hk1,hsr,hx1,hbx1,hnb1,hbase1,hJ1,hfound⟩:=hsp
   clear hrel
   have hlt1:=hsr.lt
   have HFD:=za hfound
   have HJ1:=za hJ1
   have HK1:=za hk1
   clear hfound hJ1 hk1
   have HST:=za (found_step HE.out hsr.fine hsr.ok)
   cases hn:jJ C P1 with
   | none =>
    have HN:Hid (Calls Tryz.prog 131 #[.pointer (some ⟨b,0,none⟩)] wr fun e w'=>e = .returned (.bool false)∧Stepped wr w' b Im C vf vp1 []):=by
     have:=next_c b Im C vf vp1 P1 wr hsr HE.out
     rw[hn] at this
     exact this
    have HST2:Hid (qb C P1=[]):=by have:=HST.out;rw[hn] at this;exact this
    clear hn HST hsr
    gi_wp2_with (first|(with_reducible refine ⟨wide_fn _,?_⟩)|(with_reducible refine ⟨qi,?_⟩)|(with_reducible refine ⟨qW,?_⟩)|(gi_at_call 131;refine (callsIn_wide.2 HN.out).mono ?_;rintro _ w1 ⟨rfl,vp2,hsr2,hst2,hk2⟩))
    go_end0
    refine ⟨⟨_,rfl⟩,.inl ⟨pre,_,?_,HJ.out _ _ _ _ _ HJ1.out hst2 (Mut.new hk2)⟩⟩
    have:=HFD.out
    rw[HST2.out,List.append_nil] at this
    rw[this,HS.out]
   | some P2 =>
    have HN:Hid (Calls Tryz.prog 131 #[.pointer (some ⟨b,0,none⟩)] wr fun e w'=>e = .returned (.bool true)∧∃vp2,Bun b bx base Im C vf J P2 pre vp2 w'):=by
     have:=next_c b Im C vf vp1 P1 wr hsr HE.out
     rw[hn] at this
     refine this.mono ?_
     rintro e w1 ⟨he,vp2,hsr2,hst2,hk2⟩
     have hs:=hst2.size
     exact ⟨he,vp2,(hst2.cell hbx1 hnb1).trans hx1,by omega,hsr2.lt,by omega,fun e=>(Mut.new hk2 bx e).elim hnb1 (fun h=>by omega),za hsr2,za (HJ.out _ _ _ _ _ HJ1.out hst2 (Mut.new hk2))⟩
    have HST2:Hid (qb C P1=(if (P2.length==C.O.length)=true∧jE C P2=false then [jc C P2] else [])++qb C P2):=by have:=HST.out;rw[hn] at this;exact this
    have HLT:=za (fuelP_lt HE.out hsr.fine hsr.ok hn)
    have HF:=za (fun w1 vp2 (hb:Bun b bx base Im C vf J P2 pre vp2 w1)=>(full_c b Im C vf vp2 P2 w1 hb.2.2.2.2.2.1.out).mono (fun e w' h=>And.intro h.1 (hb.below HJ.out h.2)))
    obtain ⟨af,nf,cf,rfl⟩:∃af nf cf,vf = .slice af nf cf:=by
     obtain ⟨a,c,e⟩:=zr hsr.f
     exact ⟨_,_,_,e⟩
    have HC:=za (fun w3 vp2 (hb:Bun b bx base Im C (.slice af nf cf) J P2 pre vp2 w3) (hL:∀v,(pre++[(v,jc C P2)]).map Prod.snd++qb C P2=qb C P)=>(clone_c af nf cf (jc C P2) w3 hb.2.2.2.2.2.1.out.ic.1).mono (fun e w' h=>show ∃v,e = .returned v∧YieldAt Fence.wide 0 Tryz.prog l #[v] w' (fun e W'=>(e = .returned (.bool true)∧Hid (SolRel b bx base Im C (.slice af nf cf) J (qb C P) W' (qu C P2)))∨(e = .returned (.bool false)∧Hid (∃pre' M,(pre'.map Prod.snd <+: qb C P∧pre'≠[])∧Jx pre' M W'))) from by
     obtain ⟨v,he,hown,hbl⟩:=h
     refine ⟨v,he,?_⟩
     have hb4:=hb.below HJ.out hbl
     obtain ⟨h1,h2,h3,h4,h5,h6,h7⟩:=hb
     refine YieldAt.mono (HY.out pre (v,jc C P2) _ w3 w' h7.out hbl (fun k e=>(hown.lt k e).1) ⟨owns_up (zI hown (Nat.zero_le _)) (fun k e=>by have:=(hown.lt k e).1;omega),fun k e hk=>?_,fun k hk=>Nat.lt_of_lt_of_le (h6.out.mutLt hk) hbl.size⟩) ?_
     ·have hge:=(hown.lt k e).1
      rcases hk with hk|hk|hk
      ·have:=h6.out.imLt k hk;omega
      ·have:=h6.out.mutLt hk;omega
      ·omega
     ·rintro e5 W5 (⟨he5,hJ5,hk5⟩|⟨he5,hJ5,_⟩)
      ·refine .inl ⟨he5,za ?_⟩
       obtain ⟨g1,g2,g3,g4,g5,g6,g7⟩:=hb4
       exact ⟨_,P2,vp2,rfl,g6.out.keep hk5.1 (fun k hlt hk=>hk5.2 k hlt (hk.imp id .inl)),(World.cell?_of_block (hk5.2 bx g2 (.inr (.inr rfl)))).trans g1,Nat.lt_of_lt_of_le g2 hk5.1,g5,Nat.le_trans g4 hk5.1,hJ5,hL v⟩
      ·refine .inr ⟨he5,za ⟨_,_,⟨⟨qb C P2,hL v⟩,by simp⟩,hJ5⟩⟩))
    have HW:=za (fun w1 vp2 (hb:Bun b bx base Im C (.slice af nf cf) J P2 pre vp2 w1)=>(wrong_c b Im C (.slice af nf cf) vp2 P2 w1 hb.2.2.2.2.2.1.out).mono (fun e w' h=>And.intro h.1 (hb.below HJ.out h.2)))
    clear hn HST hsr HJ1
    by_cases hf:(P2.length==C.O.length)=true
    ·by_cases hw:jE C P2=true
     ·have HL2:Hid (pre.map Prod.snd++qb C P2=qb C P):=by
       have h1:=HST2.out
       rw[if_neg (fun e=>by rw[hw] at e;exact absurd e.2 (by decide)),List.nil_append] at h1
       exact h1▸HFD.out
      rw[hf] at HF
      rw[hw] at HW
      clear hf hw HC
      gi_wp2_with (first|(with_reducible refine ⟨wide_fn _,?_⟩)|(with_reducible refine ⟨qi,?_⟩)|(with_reducible refine ⟨qW,?_⟩)|(gi_at_call 131;refine (callsIn_wide.2 HN.out).mono ?_;rintro _ w1 ⟨rfl,vp2,hx1,hbx1,hlt1,hbs1,hm1,HS1,HJ1⟩)|(gi_at_call 132;refine (callsIn_wide.2 (HF.out _ _ ⟨hx1,hbx1,hlt1,hbs1,hm1,HS1,HJ1⟩)).mono ?_;rintro _ w2 ⟨rfl,hx2,hbx2,hlt2,hbs2,hm2,HS2,HJ2⟩)|(gi_at_call 133;refine (callsIn_wide.2 (HW.out _ _ ⟨hx2,hbx2,hlt2,hbs2,hm2,HS2,HJ2⟩)).mono ?_;rintro _ w3 ⟨rfl,hx3,hbx3,hlt3,hbs3,hm3,HS3,HJ3⟩;have c10:=HS3.out.c10))
      go_roundw
      case rel=>exact ⟨_,Bun.rel ⟨hx3,hbx3,hlt3,hbs3,hm3,HS3,HJ3⟩ HL2.out⟩
      case measure=>exact (Bun.rel ⟨hx3,hbx3,hlt3,hbs3,hm3,HS3,HJ3⟩ HL2.out).meas HLT.out HK1.out
     ·have hw':jE C P2=false:=by simpa using hw
      have HL2:Hid (∀v,(pre++[(v,jc C P2)]).map Prod.snd++qb C P2=qb C P):=fun v=>by
       have h1:=HST2.out
       rw[if_pos ⟨hf,hw'⟩] at h1
       have h2:=h1▸HFD.out
       simpa using h2
      have HC2:=za (fun w3 vp2 (hb:Bun b bx base Im C (.slice af nf cf) J P2 pre vp2 w3)=>HC.out w3 vp2 hb HL2.out)
      rw[hf] at HF
      rw[hw'] at HW
      clear hf hw hw' HC
      gi_wp2_with (first|(with_reducible refine ⟨wide_fn _,?_⟩)|(with_reducible refine ⟨qi,?_⟩)|(with_reducible refine ⟨qW,?_⟩)|(gi_at_call 131;refine (callsIn_wide.2 HN.out).mono ?_;rintro _ w1 ⟨rfl,vp2,hx1,hbx1,hlt1,hbs1,hm1,HS1,HJ1⟩)|(gi_at_call 132;refine (callsIn_wide.2 (HF.out _ _ ⟨hx1,hbx1,hlt1,hbs1,hm1,HS1,HJ1⟩)).mono ?_;rintro _ w2 ⟨rfl,hx2,hbx2,hlt2,hbs2,hm2,HS2,HJ2⟩)|(gi_at_call 133;refine (callsIn_wide.2 (HW.out _ _ ⟨hx2,hbx2,hlt2,hbs2,hm2,HS2,HJ2⟩)).mono ?_;rintro _ w3 ⟨rfl,hx3,hbx3,hlt3,hbs3,hm3,HS3,HJ3⟩;have c10:=HS3.out.c10)|(gi_at_call 71;refine (callsIn_wide.2 (HC2.out _ _ ⟨hx3,hbx3,hlt3,hbs3,hm3,HS3,HJ3⟩)).mono ?_;rintro _ w4 ⟨v4,rfl,fn,tmps,assign,body,hy,hR⟩))
      refine hR.mono ?_
      rintro e5 w5 (⟨rfl,hr5⟩|⟨rfl,hr5⟩)
      ·gi_wp2_with (first|(with_reducible refine ⟨wide_fn _,?_⟩)|(with_reducible refine ⟨qi,?_⟩)|(with_reducible refine ⟨qW,?_⟩))
       go_roundw
       case rel=>exact ⟨_,hr5.out⟩
       case measure=>exact hr5.out.meas HLT.out HK1.out
      ·gi_wp2_with (first|(with_reducible refine ⟨wide_fn _,?_⟩)|(with_reducible refine ⟨qi,?_⟩)|(with_reducible refine ⟨qW,?_⟩))
       refine bodyPost_ret (results_none rfl _ _ _) rfl ?_
       obtain ⟨pre',M,h1,h2⟩:=hr5.out
       exact ⟨⟨_,rfl⟩,.inr ⟨pre',M,by rw[HS.out];exact h1,h2⟩⟩
    ·have hf':(P2.length==C.O.length)=false:=by simpa using hf
     have HL2:Hid (pre.map Prod.snd++qb C P2=qb C P):=by
      have h1:=HST2.out
      rw[if_neg (fun e=>by rw[hf'] at e;exact absurd e.1 (by decide)),List.nil_append] at h1
      exact h1▸HFD.out
     rw[hf'] at HF
     clear hf hf' HC HW
     gi_wp2_with (first|(with_reducible refine ⟨wide_fn _,?_⟩)|(with_reducible refine ⟨qi,?_⟩)|(with_reducible refine ⟨qW,?_⟩)|(gi_at_call 131;refine (callsIn_wide.2 HN.out).mono ?_;rintro _ w1 ⟨rfl,vp2,hx1,hbx1,hlt1,hbs1,hm1,HS1,HJ1⟩)|(gi_at_call 132;refine (callsIn_wide.2 (HF.out _ _ ⟨hx1,hbx1,hlt1,hbs1,hm1,HS1,HJ1⟩)).mono ?_;rintro _ w2 ⟨rfl,hx2,hbx2,hlt2,hbs2,hm2,HS2,HJ2⟩))
     go_roundw
     case rel=>exact ⟨_,Bun.rel ⟨hx2,hbx2,hlt2,hbs2,hm2,HS2,HJ2⟩ HL2.out⟩
     case measure=>exact (Bun.rel ⟨hx2,hbx2,hlt2,hbs2,hm2,HS2,HJ2⟩ HL2.out).meas HLT.out HK1.out
theorem sol_seq (b bx base:Nat) (Im:Nat→Prop) (C:Cst) (vf vp:Value) (P:List Int) (W:World) (h:SR W b Im C vf vp P) (he:Even C) (hx:W.cell? ⟨bx,0,none⟩=some (.pointer (some ⟨b,0,none⟩))) (hbx:bx<W.heap.size) (hnb:¬Mut b vf vp bx) (hbase:base≤W.heap.size) :
  SeqM Tryz.prog 193 #[.pointer (some ⟨bx,0,none⟩)] encS NewS (GivenS Im bx base) (KpS Im bx) (fun xs=>xs.map Prod.snd=sols C P) (fun pre=>pre.map Prod.snd <+: sols C P∧pre≠[]) (Mut b vf vp) W :=
 fun l J Jx W1 hb hJ _ hY h0=>sol1_c b bx base Im C vf vp P W1 (h.below hb) he (((zF hb).1 _ _ hbx).trans hx) (Nat.lt_of_lt_of_le hbx hb.size) hnb (Nat.le_trans hbase hb.size) l J Jx hJ hY h0
end
end Go.Proofs.YtaadpihbjhachaaGreat
