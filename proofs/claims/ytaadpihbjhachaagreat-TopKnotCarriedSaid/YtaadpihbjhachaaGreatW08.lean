/- Texts C26 to I1 of this proof, in one file. -/
import Derived.Test.YtaadpihbjhachaaGreatW05
import Derived.Test.YtaadpihbjhachaaGreatW07
import Derived.Lib.Hide
import Derived.RangeFuncNested
import Derived.RangeFuncLeaves
import Derived.RangeFuncCalls
import Derived.OwnWalkIn
import Derived.TacticsInMore
import Derived.LoopNIn
import Derived.LoopIn
namespace Go.Proofs.YtaadpihbjhachaaGreat
set_option maxRecDepth 100000
set_option maxHeartbeats 16000000
section
open Go Go.RowKit
attribute [local go_sem] over_cell
def few6B (cells op sc sum:Int) (ls:List (List Int)) (g:List Int):Bool:=short6B cells ls g&&(taskErr sc ls sum g==0)&&few2B cells 12 sc ls&&decide (((openL g).length:Int)≤op)
theorem few6_c (a:Option Addr) (n c:Nat) (ls:List (List Int)) (sc sum:Int) (a':Option Addr) (n' c':Nat) (g:List Int) (cells op:Int) (w:World) (h:RC w a n ls) (hcap:n≤c) (h':IC w a' n' g) (hcap':n'≤c') :
  Calls Tryz.prog 9 #[.agg #[.int .i64 sc,.slice a n c,.int .i64 sum,.slice a' n' c'],.int .i64 cells,.int .i64 op] w fun e w'=>e = .returned (.bool (few6B cells op sc sum ls g))∧Below w.heap.size w w':=by
 have hB:Below w.heap.size w (w.alloc (.cells #[.int .i64 sc,.slice a n c,.int .i64 sum,.slice a' n' c'] 30)):=(Below.refl _ _).alloc (Nat.le_refl _) _
 have HS:=Lib.hid (short6_c a n c ls sc sum a' n' c' g cells _ (h.mono hB) (h'.mono hB))
 have HC:=Lib.hid (fun w1 (hb:Below w.heap.size w w1)=>rtask_c a n c ls sc sum a' n' c' g w1 (h.mono hb) hcap (h'.mono hb) hcap')
 have HF:=Lib.hid (fun w1 (hb:Below w.heap.size w w1)=>few2_c a n c ls sc cells 12 w1 (h.mono hb) hcap)
 have HO:=Lib.hid (fun w1 (hb:Below w.heap.size w w1)=>ropen_c (.slice a n c) sc sum a' n' c' g w1 (h'.mono hb))
 have hE:Hid (few6B cells op sc sum ls g=(short6B cells ls g&&(taskErr sc ls sum g==0)&&few2B cells 12 sc ls&&decide (((openL g).length:Int)≤op))):=rfl
 clear h h'
 go_enter Tryz.func9,Tryz.ntmps9
 by_cases hs:short6B cells ls g=true
 ·rw[hs] at HS hE
  by_cases he:(taskErr sc ls sum g==0)=true
  ·rw[he] at hE
   by_cases hf:few2B cells 12 sc ls=true
   ·rw[hf] at HF hE
    go_wp2_with (first|(go_at_call 50;refine HS.out.mono ?_;rintro _ w1 ⟨rfl,hb0⟩;obtain ⟨⟨x0,x1,x2,x3⟩,hb1,hs1⟩:=box4 hb0;clear hb0)|(go_at_call 13;refine (HC.out w1 hb1).mono ?_;rintro _ w2 ⟨rfl,hb2⟩;obtain ⟨y0,y1,y2,y3⟩:w2.cell? ⟨w.heap.size,0,none⟩=some (.int .i64 sc)∧w2.cell? ⟨w.heap.size,1,none⟩=some (.slice a n c)∧w2.cell? ⟨w.heap.size,2,none⟩=some (.int .i64 sum)∧w2.cell? ⟨w.heap.size,3,none⟩=some (.slice a' n' c'):=⟨((bcell hb2).1 _ _ hs1).trans x0,((bcell hb2).1 _ _ hs1).trans x1,((bcell hb2).1 _ _ hs1).trans x2,((bcell hb2).1 _ _ hs1).trans x3⟩;have hs2:=Nat.lt_of_lt_of_le hs1 hb2.size;have hb12:=hb1.trans (hb2.mono (Nat.le_of_lt hs1)))|(go_at_call 33;refine (HF.out w2 hb12).mono ?_;rintro _ w3 ⟨rfl,hb3⟩;obtain ⟨z0,z1,z2,z3⟩:w3.cell? ⟨w.heap.size,0,none⟩=some (.int .i64 sc)∧w3.cell? ⟨w.heap.size,1,none⟩=some (.slice a n c)∧w3.cell? ⟨w.heap.size,2,none⟩=some (.int .i64 sum)∧w3.cell? ⟨w.heap.size,3,none⟩=some (.slice a' n' c'):=⟨((bcell hb3).1 _ _ hs2).trans y0,((bcell hb3).1 _ _ hs2).trans y1,((bcell hb3).1 _ _ hs2).trans y2,((bcell hb3).1 _ _ hs2).trans y3⟩;have hs3:=Nat.lt_of_lt_of_le hs2 hb3.size;have hb13:=hb12.trans (hb3.mono (Nat.le_of_lt hs2)))|(go_at_call 23;refine (HO.out w3 hb13).mono ?_;rintro _ w4 ⟨v4,rfl,hown4,hb4⟩;obtain ⟨a4,c4,rfl⟩:=owns_shape hown4))
    go_ret
    exact ⟨ret_bool (by rw[hE.out];simp),hb13.trans (hb4.mono (Nat.le_of_lt hs3))⟩
   ·have hf':few2B cells 12 sc ls=false:=by simpa using hf
    rw[hf'] at HF hE
    go_wp2_with (first|(go_at_call 50;refine HS.out.mono ?_;rintro _ w1 ⟨rfl,hb0⟩;obtain ⟨⟨x0,x1,x2,x3⟩,hb1,hs1⟩:=box4 hb0;clear hb0)|(go_at_call 13;refine (HC.out w1 hb1).mono ?_;rintro _ w2 ⟨rfl,hb2⟩;obtain ⟨y0,y1,y2,y3⟩:w2.cell? ⟨w.heap.size,0,none⟩=some (.int .i64 sc)∧w2.cell? ⟨w.heap.size,1,none⟩=some (.slice a n c)∧w2.cell? ⟨w.heap.size,2,none⟩=some (.int .i64 sum)∧w2.cell? ⟨w.heap.size,3,none⟩=some (.slice a' n' c'):=⟨((bcell hb2).1 _ _ hs1).trans x0,((bcell hb2).1 _ _ hs1).trans x1,((bcell hb2).1 _ _ hs1).trans x2,((bcell hb2).1 _ _ hs1).trans x3⟩;have hs2:=Nat.lt_of_lt_of_le hs1 hb2.size;have hb12:=hb1.trans (hb2.mono (Nat.le_of_lt hs1)))|(go_at_call 33;refine (HF.out w2 hb12).mono ?_;rintro _ w3 ⟨rfl,hb3⟩;obtain ⟨z0,z1,z2,z3⟩:w3.cell? ⟨w.heap.size,0,none⟩=some (.int .i64 sc)∧w3.cell? ⟨w.heap.size,1,none⟩=some (.slice a n c)∧w3.cell? ⟨w.heap.size,2,none⟩=some (.int .i64 sum)∧w3.cell? ⟨w.heap.size,3,none⟩=some (.slice a' n' c'):=⟨((bcell hb3).1 _ _ hs2).trans y0,((bcell hb3).1 _ _ hs2).trans y1,((bcell hb3).1 _ _ hs2).trans y2,((bcell hb3).1 _ _ hs2).trans y3⟩;have hs3:=Nat.lt_of_lt_of_le hs2 hb3.size;have hb13:=hb12.trans (hb3.mono (Nat.le_of_lt hs2)))|(go_at_call 23;refine (HO.out w3 hb13).mono ?_;rintro _ w4 ⟨v4,rfl,hown4,hb4⟩;obtain ⟨a4,c4,rfl⟩:=owns_shape hown4))
    go_ret
    exact ⟨ret_bool (by rw[hE.out];simp),hb13⟩
  ·have he':(taskErr sc ls sum g==0)=false:=by simpa using he
   rw[he'] at hE
   go_wp2_with (first|(go_at_call 50;refine HS.out.mono ?_;rintro _ w1 ⟨rfl,hb0⟩;obtain ⟨⟨x0,x1,x2,x3⟩,hb1,hs1⟩:=box4 hb0;clear hb0)|(go_at_call 13;refine (HC.out w1 hb1).mono ?_;rintro _ w2 ⟨rfl,hb2⟩;obtain ⟨y0,y1,y2,y3⟩:w2.cell? ⟨w.heap.size,0,none⟩=some (.int .i64 sc)∧w2.cell? ⟨w.heap.size,1,none⟩=some (.slice a n c)∧w2.cell? ⟨w.heap.size,2,none⟩=some (.int .i64 sum)∧w2.cell? ⟨w.heap.size,3,none⟩=some (.slice a' n' c'):=⟨((bcell hb2).1 _ _ hs1).trans x0,((bcell hb2).1 _ _ hs1).trans x1,((bcell hb2).1 _ _ hs1).trans x2,((bcell hb2).1 _ _ hs1).trans x3⟩;have hs2:=Nat.lt_of_lt_of_le hs1 hb2.size;have hb12:=hb1.trans (hb2.mono (Nat.le_of_lt hs1)))|(go_at_call 33;refine (HF.out w2 hb12).mono ?_;rintro _ w3 ⟨rfl,hb3⟩;obtain ⟨z0,z1,z2,z3⟩:w3.cell? ⟨w.heap.size,0,none⟩=some (.int .i64 sc)∧w3.cell? ⟨w.heap.size,1,none⟩=some (.slice a n c)∧w3.cell? ⟨w.heap.size,2,none⟩=some (.int .i64 sum)∧w3.cell? ⟨w.heap.size,3,none⟩=some (.slice a' n' c'):=⟨((bcell hb3).1 _ _ hs2).trans y0,((bcell hb3).1 _ _ hs2).trans y1,((bcell hb3).1 _ _ hs2).trans y2,((bcell hb3).1 _ _ hs2).trans y3⟩;have hs3:=Nat.lt_of_lt_of_le hs2 hb3.size;have hb13:=hb12.trans (hb3.mono (Nat.le_of_lt hs2)))|(go_at_call 23;refine (HO.out w3 hb13).mono ?_;rintro _ w4 ⟨v4,rfl,hown4,hb4⟩;obtain ⟨a4,c4,rfl⟩:=owns_shape hown4))
   go_ret
   exact ⟨ret_bool (by rw[hE.out];simp),hb12⟩
 ·have hs':short6B cells ls g=false:=by simpa using hs
  rw[hs'] at HS hE
  go_wp2_with (first|(go_at_call 50;refine HS.out.mono ?_;rintro _ w1 ⟨rfl,hb0⟩;obtain ⟨⟨x0,x1,x2,x3⟩,hb1,hs1⟩:=box4 hb0;clear hb0)|(go_at_call 13;refine (HC.out w1 hb1).mono ?_;rintro _ w2 ⟨rfl,hb2⟩;obtain ⟨y0,y1,y2,y3⟩:w2.cell? ⟨w.heap.size,0,none⟩=some (.int .i64 sc)∧w2.cell? ⟨w.heap.size,1,none⟩=some (.slice a n c)∧w2.cell? ⟨w.heap.size,2,none⟩=some (.int .i64 sum)∧w2.cell? ⟨w.heap.size,3,none⟩=some (.slice a' n' c'):=⟨((bcell hb2).1 _ _ hs1).trans x0,((bcell hb2).1 _ _ hs1).trans x1,((bcell hb2).1 _ _ hs1).trans x2,((bcell hb2).1 _ _ hs1).trans x3⟩;have hs2:=Nat.lt_of_lt_of_le hs1 hb2.size;have hb12:=hb1.trans (hb2.mono (Nat.le_of_lt hs1)))|(go_at_call 33;refine (HF.out w2 hb12).mono ?_;rintro _ w3 ⟨rfl,hb3⟩;obtain ⟨z0,z1,z2,z3⟩:w3.cell? ⟨w.heap.size,0,none⟩=some (.int .i64 sc)∧w3.cell? ⟨w.heap.size,1,none⟩=some (.slice a n c)∧w3.cell? ⟨w.heap.size,2,none⟩=some (.int .i64 sum)∧w3.cell? ⟨w.heap.size,3,none⟩=some (.slice a' n' c'):=⟨((bcell hb3).1 _ _ hs2).trans y0,((bcell hb3).1 _ _ hs2).trans y1,((bcell hb3).1 _ _ hs2).trans y2,((bcell hb3).1 _ _ hs2).trans y3⟩;have hs3:=Nat.lt_of_lt_of_le hs2 hb3.size;have hb13:=hb12.trans (hb3.mono (Nat.le_of_lt hs2)))|(go_at_call 23;refine (HO.out w3 hb13).mono ?_;rintro _ w4 ⟨v4,rfl,hown4,hb4⟩;obtain ⟨a4,c4,rfl⟩:=owns_shape hown4))
  go_ret
  exact ⟨ret_bool (by rw[hE.out];simp),hb1⟩
end
section
open Go Go.RowKit
def visit (C:Cst):Nat→List Int→List (List Int)
 | 0,_=>[]
 | k+1,P=>match nextP C P with
  | none=>[]
  | some P'=>(if (P'.length==C.O.length)=true∧wrongB C P'=false then [fillP C P'] else [])++visit C k P'
def val:Nat→List Int→Nat
 | 0,_=>0
 | _+1,[]=>0
 | m+1,x :: P=>x.toNat*257 ^ m+val m P
theorem val_lt:∀(m:Nat) (P:List Int),(∀x,x∈P→x≤256)→val m P<257 ^ m
 | 0,_,_=>by simp[val]
 | m+1,[],_=>by simp only[val];exact Nat.pow_pos (by decide)
 | m+1,x :: P,h=>by
  have h1:=val_lt m P (fun y hy=>h y (List.mem_cons_of_mem _ hy))
  have h2:=h x List.mem_cons_self
  have h3:x.toNat≤256:=by omega
  have h4:x.toNat*257 ^ m≤256*257 ^ m:=Nat.mul_le_mul_right _ h3
  simp only[val]
  rw[Nat.pow_succ]
  omega
theorem val_snoc:∀(m:Nat) (P:List Int) (x:Int),P.length<m→1≤x→val m P<val m (P++[x])
 | 0,_,_,h,_=>absurd h (Nat.not_lt_zero _)
 | m+1,[],x,_,hx=>by
  have h3:1≤x.toNat:=by omega
  have h4:1*257 ^ m≤x.toNat*257 ^ m:=Nat.mul_le_mul_right _ h3
  have h5:0<257 ^ m:=Nat.pow_pos (by decide)
  simp only[List.nil_append,val]
  omega
 | m+1,y :: P,x,h,hx=>by
  have:=val_snoc m P x (by simpa using h) hx
  simp only[List.cons_append,val]
  omega
theorem val_raise:∀(m:Nat) (Q:List Int) (y x:Int) (R:List Int),(Q++y :: R).length≤m→y.toNat<x.toNat→(∀z,z∈R→z≤256)→val m (Q++y :: R)<val m (Q++[x])
 | 0,Q,y,x,R,h,_,_=>by simp at h
 | m+1,[],y,x,R,h,hx,hR=>by
  have h1:=val_lt m R hR
  have h4:(y.toNat+1)*257 ^ m≤x.toNat*257 ^ m:=Nat.mul_le_mul_right _ hx
  rw[Nat.add_mul] at h4
  simp only[List.nil_append,val]
  omega
 | m+1,q :: Q,y,x,R,h,hx,hR=>by
  have:=val_raise m Q y x R (by simpa using h) hx hR
  simp only[List.cons_append,val]
  omega
theorem backP_val {C:Cst} (m:Nat):∀(R T:List Int) (P':List Int),(R.reverse++T).length≤m→(∀z,z∈R.reverse++T→z≤256)→backP C R=some P'→val m (R.reverse++T)<val m P'
 | [],_,_,_,_,h=>by simp[backP] at h
 | x :: R,T,P',hl,hz,h=>by
  rw[List.reverse_cons,List.append_assoc,List.singleton_append] at hl hz ⊢
  unfold backP at h
  by_cases hab:0<aboveM (maskL (leftL C R.reverse)) x.toNat
  ·rw[if_pos hab] at h
   cases h
   refine val_raise m _ _ _ _ hl ?_ (fun z hz2=>hz z (List.mem_append_right _ (List.mem_cons_of_mem _ hz2)))
   rw[Int.toNat_natCast]
   exact (aboveM_spec hab).1
  ·rw[if_neg hab] at h
   exact backP_val m R (x :: T) P' hl hz h
theorem nextP_val {C:Cst} {P P':List Int} (he:Even C) (hf:Fine C) (ho:OkP C P) (h:nextP C P=some P'):val C.O.length P<val C.O.length P':=by
 have hz:∀z,z∈P→z≤256:=fun z hz=>by
  have:=mem_unused.1 (ho.num z hz)
  have:=hf.len
  have:=hf.most
  omega
 unfold nextP at h
 split at h
 ·rename_i hc
  cases h
  have hne:P.length≠C.O.length:=by
   have:=hc.1
   simpa using this
  have hl:P.length<C.O.length:=by have:=ho.len;omega
  have ha:=above_first he hf hl
  exact val_snoc _ _ _ hl (by omega)
 ·have:=backP_val (C:=C) C.O.length P.reverse [] P' (by simpa using ho.len) (by simpa using hz) h
  simpa using this
end
section
open Go Go.RowKit
theorem backP_ok {C:Cst}:∀(R:List Int) (P':List Int),OkP C R.reverse→backP C R=some P'→OkP C P'
 | [],_,_,h=>by simp[backP] at h
 | x :: R,P',ho,h=>by
  rw[List.reverse_cons] at ho
  have hp:=ho.pop
  unfold backP at h
  by_cases hab:0<aboveM (maskL (leftL C R.reverse)) x.toNat
  ·rw[if_pos hab] at h
   cases h
   have ha:=above_left hab
   exact hp.1.push hp.2.2.2 ha.1 ha.2
  ·rw[if_neg hab] at h
   exact backP_ok R P' hp.1 h
theorem nextP_ok {C:Cst} {P P':List Int} (he:Even C) (hf:Fine C) (ho:OkP C P) (h:nextP C P=some P'):OkP C P':=by
 unfold nextP at h
 split at h
 ·rename_i hc
  cases h
  have hne:P.length≠C.O.length:=by
   have:=hc.1
   simpa using this
  have hl:P.length<C.O.length:=by have:=ho.len;omega
  have ha:=above_left (above_first he hf hl)
  exact ho.push hl ha.1 ha.2
 ·exact backP_ok P.reverse P' (by rw[List.reverse_reverse];exact ho) h
def fuelP (C:Cst) (P:List Int):Nat:=257 ^ C.O.length - val C.O.length P
theorem ok_val {C:Cst} {P:List Int} (hf:Fine C) (ho:OkP C P):val C.O.length P<257 ^ C.O.length :=
 val_lt _ _ fun z hz=>by
  have:=mem_unused.1 (ho.num z hz)
  have:=hf.len
  have:=hf.most
  omega
theorem fuelP_lt {C:Cst} {P P':List Int} (he:Even C) (hf:Fine C) (ho:OkP C P) (h:nextP C P=some P'):fuelP C P'<fuelP C P:=by
 have h1:=nextP_val he hf ho h
 have h2:=ok_val hf (nextP_ok he hf ho h)
 unfold fuelP
 omega
def found (C:Cst) (P:List Int):List (List Int):=visit C (fuelP C P) P
theorem visit_eq {C:Cst} (he:Even C) (hf:Fine C):∀(f:Nat) (P:List Int),OkP C P→fuelP C P=f→∀k j,f≤k→f≤j→visit C k P=visit C j P:=by
 intro f
 induction f using Nat.strongRecOn with
 | _ f ih =>
  intro P ho hfP k j hk hj
  have hpos:0<fuelP C P:=by
   have:=ok_val hf ho
   unfold fuelP
   omega
  cases k with
  | zero=>omega
  | succ k =>
   cases j with
   | zero=>omega
   | succ j =>
    simp only[visit]
    cases hn:nextP C P with
    | none=>rfl
    | some P' =>
     have h1:=fuelP_lt he hf ho hn
     simp only
     rw[ih (fuelP C P') (by omega) P' (nextP_ok he hf ho hn) rfl k j (by omega) (by omega)]
theorem found_step {C:Cst} {P:List Int} (he:Even C) (hf:Fine C) (ho:OkP C P):found C P=match nextP C P with
  | none=>[]
  | some P'=>(if (P'.length==C.O.length)=true∧wrongB C P'=false then [fillP C P'] else [])++found C P':=by
 have h0:=visit_eq he hf (fuelP C P) P ho rfl (fuelP C P) (fuelP C P+1) (Nat.le_refl _) (by omega)
 unfold found
 rw[h0]
 simp only[visit]
 cases hn:nextP C P with
 | none=>rfl
 | some P' =>
  have h1:=fuelP_lt he hf ho hn
  simp only
  rw[visit_eq he hf (fuelP C P') P' (nextP_ok he hf ho hn) rfl (fuelP C P) (fuelP C P') (by omega) (Nat.le_refl _)]
end
section
open Go Go.RowKit
theorem filter_parts {α:Type} (p:α→Bool):∀l:List α,(l.filter p).length+(l.filter (fun x=>!p x)).length=l.length
 | []=>rfl
 | x :: l=>by
  have:=filter_parts p l
  by_cases h:p x=true
  ·simp[h];omega
  ·have h':p x=false:=by simpa using h
   simp[h'];omega
theorem even_of {g:List Int} (hn:∀k:Nat,k<g.length→0≤g[k]?.getD 0∧g[k]?.getD 0≤g.length) (hd:∀i j:Nat,i<j→j<g.length→0<g[j]?.getD 0→g[i]?.getD 0≠g[j]?.getD 0):(unusedL g).length=(openL g).length:=by
 have h1:=filter_parts (fun (i:Nat)=>g[i]?.getD 0==0) (List.range g.length)
 have h2:=filter_parts (fun (i:Nat)=>!hasB g ((i:Int)+1)) (List.range g.length)
 rw[List.length_range] at h1 h2
 have hA:(((List.range g.length).filter (fun (i:Nat)=>!(g[i]?.getD 0==0))).map (fun i=>g[i]?.getD 0)).Nodup:=by
  refine List.Pairwise.map _ (fun (i j:Nat) h=>h) (R:=fun (i j:Nat)=>g[i]?.getD 0≠g[j]?.getD 0) ?_
  have hp:(List.range g.length).Pairwise (fun i j=>i<j∧j<g.length):=by
   rw[List.pairwise_iff_getElem]
   intro i j hi hj hij
   rw[List.length_range] at hi hj
   simp only[List.getElem_range]
   exact ⟨hij,hj⟩
  refine List.Pairwise.imp_of_mem ?_ (hp.filter _)
  intro i j _ hj hij
  have hj2:=(List.mem_filter.1 hj).2
  simp only[Bool.not_eq_true',beq_eq_false_iff_ne,ne_eq] at hj2
  have:=(hn j hij.2).1
  exact hd i j hij.1 hij.2 (by omega)
 have hB:(((List.range g.length).filter (fun (i:Nat)=>!!hasB g ((i:Int)+1))).map (fun (i:Nat)=>(i:Int)+1)).Nodup:=by
  refine List.Pairwise.map _ (fun (a b:Nat) h=>?_) (List.Pairwise.filter _ List.nodup_range)
  omega
 have hAB:=nodup_le hA (m:=((List.range g.length).filter (fun (i:Nat)=>!!hasB g ((i:Int)+1))).map (fun (i:Nat)=>(i:Int)+1)) (by
  intro x hx
  obtain ⟨i,hi,rfl⟩:=List.mem_map.1 hx
  rw[List.mem_filter,List.mem_range] at hi
  have h3:=hn i hi.1
  have h4:=hi.2
  simp only[Bool.not_eq_true',beq_eq_false_iff_ne,ne_eq] at h4
  refine List.mem_map.2 ⟨(g[i]?.getD 0 - 1).toNat,?_,by omega⟩
  rw[List.mem_filter,List.mem_range]
  refine ⟨by omega,?_⟩
  rw[Bool.not_not,show (((g[i]?.getD 0 - 1).toNat:Nat):Int)+1=g[i]?.getD 0 from by omega,hasB_iff,List.getElem?_eq_getElem hi.1]
  exact List.getElem_mem hi.1)
 have hBA:=nodup_le hB (m:=((List.range g.length).filter (fun (i:Nat)=>!(g[i]?.getD 0==0))).map (fun i=>g[i]?.getD 0)) (by
  intro x hx
  obtain ⟨i,hi,rfl⟩:=List.mem_map.1 hx
  rw[List.mem_filter,List.mem_range,Bool.not_not,hasB_iff] at hi
  obtain ⟨k,hk,hgk⟩:=List.getElem_of_mem hi.2
  refine List.mem_map.2 ⟨k,?_,by rw[List.getElem?_eq_getElem hk];exact hgk⟩
  rw[List.mem_filter,List.mem_range]
  refine ⟨hk,?_⟩
  rw[List.getElem?_eq_getElem hk,Option.getD_some,hgk]
  simp
  omega)
 rw[List.length_map,List.length_map] at hAB hBA
 simp only[unusedL,unusedTo,openL,openTo,List.length_map]
 omega
end
section
open Go Go.RowKit
structure GoodTask (cells:Int) (ls:List (List Int)) (sum:Int) (g:List Int):Prop where
  cells1:1≤cells
  cells2:cells≤256
  lines:ls.length≤128
  sum1:1≤sum
  sum2:sum≤999999999
  len:(g.length:Int)=cells
  some:∀l,l∈ls→0<l.length
  mem:∀l,l∈ls→∀k:Nat,k<l.length→0≤l[k]?.getD 0∧l[k]?.getD 0<cells
  asc:∀l,l∈ls→∀k:Nat,0<k→k<l.length→l[k - 1]?.getD 0<l[k]?.getD 0
  num:∀i:Nat,i<g.length→0≤g[i]?.getD 0∧g[i]?.getD 0≤cells
  apart:∀i j:Nat,i<j→j<g.length→0<g[j]?.getD 0→g[i]?.getD 0≠g[j]?.getD 0
theorem goodTask {cells:Int} {ls:List (List Int)} {sum:Int} {g:List Int} (h:taskErr cells ls sum g=0):GoodTask cells ls sum g:=by
  unfold taskErr at h
  by_cases h1:sysErr cells ls≠0
  · rw[if_pos h1] at h;exact absurd h h1
  rw[if_neg h1] at h
  by_cases h2:sum<1∨sum>999999999
  · rw[if_pos h2] at h;exact absurd h (by decide)
  rw[if_neg h2] at h
  by_cases h3:(g.length:Int)≠cells
  · rw[if_pos h3] at h;exact absurd h (by decide)
  rw[if_neg h3] at h
  have hs:sysErr cells ls=0:=by omega
  unfold sysErr at hs
  by_cases h4:cells<1∨cells>256
  · rw[if_pos h4] at hs;exact absurd hs (by decide)
  rw[if_neg h4] at hs
  by_cases h5:ls.length>128
  · rw[if_pos h5] at hs;exact absurd hs (by decide)
  rw[if_neg h5] at hs
  have hg:=errs_zero h
  have hL:=errs_zero hs
  have hline:∀l,l∈ls→0<l.length∧∀k,k<l.length→lineBad cells l k=0:=by
    intro l hl
    obtain ⟨i,hi,rfl⟩:=List.getElem_of_mem hl
    have h6:=hL i hi
    unfold lineErr at h6
    rw[List.getElem?_eq_getElem hi,Option.getD_some] at h6
    by_cases h7:ls[i].length=0
    · rw[if_pos h7] at h6;exact absurd h6 (by decide)
    rw[if_neg h7] at h6
    by_cases h8:errs (lineBad cells ls[i]) ls[i].length≠0
    · rw[if_pos h8] at h6;exact absurd h6 h8
    exact ⟨by omega,errs_zero (by omega)⟩
  have hgiven:∀i:Nat,i<g.length→(0≤g[i]?.getD 0∧g[i]?.getD 0≤cells)∧(0<g[i]?.getD 0→hasB (g.take i) (g[i]?.getD 0)=false):=by
    intro i hi
    have h6:=hg i hi
    unfold givenBad at h6
    by_cases h7:g[i]?.getD 0<0∨g[i]?.getD 0>cells
    · rw[if_pos h7] at h6;exact absurd h6 (by decide)
    rw[if_neg h7] at h6
    refine ⟨by omega,fun h9=>?_⟩
    by_cases h8:0<g[i]?.getD 0∧hasB (g.take i) (g[i]?.getD 0)=true
    · rw[if_pos h8] at h6;exact absurd h6 (by decide)
    · rw[Bool.eq_false_iff];exact fun e=>h8 ⟨h9,e⟩
  have hbad:∀l,l∈ls→∀k,k<l.length→(0≤l[k]?.getD 0∧l[k]?.getD 0<cells)∧(0<k→l[k - 1]?.getD 0<l[k]?.getD 0):=by
    intro l hl k hk
    have h6:=(hline l hl).2 k hk
    unfold lineBad at h6
    by_cases h7:l[k]?.getD 0<0∨l[k]?.getD 0≥cells
    · rw[if_pos h7] at h6;exact absurd h6 (by decide)
    rw[if_neg h7] at h6
    by_cases h8:0<k∧l[k]?.getD 0≤l[k - 1]?.getD 0
    · rw[if_pos h8] at h6;exact absurd h6 (by decide)
    exact ⟨by omega,fun h9=>by omega⟩
  exact { cells1:=by omega,cells2:=by omega,lines:=by omega,sum1:=by omega,sum2:=by omega,len:=by omega,some:=fun l hl=>(hline l hl).1,
          mem:=fun l hl k hk=>(hbad l hl k hk).1,asc:=fun l hl k h0 hk=>(hbad l hl k hk).2 h0,num:=fun i hi=>(hgiven i hi).1,
          apart:=fun i j hij hj h0 e=>by
            have h6:=(hgiven j hj).2 h0
            rw[Bool.eq_false_iff] at h6
            apply h6
            rw[hasB_iff,← e,List.getElem?_eq_getElem (by omega),Option.getD_some]
            rw[List.mem_take_iff_getElem]
            exact ⟨i,by omega,rfl⟩ }
theorem GoodTask.lineLen {cells:Int} {ls:List (List Int)} {sum:Int} {g:List Int} (h:GoodTask cells ls sum g) {l:List Int} (hl:l∈ls):l.length≤1000∧∀x,x∈l→0≤x∧x<cells:=by
  have key:∀k:Nat,k<l.length→(k:Int)≤l[k]?.getD 0:=by
    intro k
    induction k with
    | zero=>intro hk;exact (h.mem l hl 0 hk).1
    | succ k ih =>
      intro hk
      have h1:=ih (by omega)
      have h2:=h.asc l hl (k+1) (by omega) hk
      simp only[Nat.add_sub_cancel] at h2
      omega
  have h0:=h.some l hl
  have h1:=key (l.length - 1) (by omega)
  have h2:=(h.mem l hl (l.length - 1) (by omega)).2
  have h3:=h.cells2
  refine ⟨by omega,fun x hx=>?_⟩
  obtain ⟨k,hk,rfl⟩:=List.getElem_of_mem hx
  have:=h.mem l hl k hk
  rwa [List.getElem?_eq_getElem hk] at this
theorem GoodTask.even {cells:Int} {ls:List (List Int)} {sum:Int} {g:List Int} (h:GoodTask cells ls sum g):(unusedL g).length=(openL g).length :=
  even_of (fun k hk=>by have:=h.num k hk;have:=h.len;omega) h.apart
theorem GoodTask.fine {C:Cst} (h:GoodTask C.cells C.ls C.sum C.g) (hl:C.g.length=C.n'):Fine C where
  len:=hl
  most:=by have:=h.len;have:=h.cells2;omega
  num:=fun k=>by
    by_cases hk:k<C.g.length
    · have:=h.num k hk
      have:=h.cells2
      omega
    · rw[List.getElem?_eq_none (by omega)];decide
  line:=fun l hl2=>by
    have h1:=h.lineLen hl2
    have h2:=h.len
    exact ⟨h1.1,fun x hx=>by have:=h1.2 x hx;omega⟩
theorem GoodTask.step {cells:Int} {ls:List (List Int)} {sum:Int} {g:List Int} (h:GoodTask cells ls sum g) {l:List Int} (hl:l∈ls):∀(j k:Nat),j+k<l.length→l[j]?.getD 0+k≤l[j+k]?.getD 0:=by
  intro j k
  induction k with
  | zero=>intro _;simp
  | succ k ih =>
    intro hk
    have h1:=ih (by omega)
    have h2:=h.asc l hl (j+k+1) (by omega) (by omega)
    simp only[Nat.add_sub_cancel] at h2
    rw[show j+(k+1)=j+k+1 from by omega]
    omega
theorem GoodTask.lineShort {cells:Int} {ls:List (List Int)} {sum:Int} {g:List Int} (h:GoodTask cells ls sum g) {l:List Int} (hl:l∈ls):(l.length:Int)≤cells:=by
  have h0:=h.some l hl
  have h1:=h.step hl 0 (l.length - 1) (by omega)
  have h2:=h.mem l hl 0 h0
  have h3:=h.mem l hl (0+(l.length - 1)) (by omega)
  omega
end
section
open Go Go.RowKit
structure StaysL (L:Nat) (M:Nat→Prop) (w w':World):Prop where
 os:w'.os=w.os
 tape:w'.tape=w.tape
 output:w'.output=w.output
 size:w.heap.size≤w'.heap.size
 block:∀k o,w.heap[k]?=some o→¬M k→(k<L∨o.isCells=true)→w'.heap[k]?=some o
theorem Stays.toL {M:Nat→Prop} {w w':World} (h:Stays M w w') (L:Nat):StaysL L M w w' :=
 ⟨h.os,h.tape,h.output,h.size,fun k _ ho hm _=>(h.block k (Array.getElem?_eq_some_iff.1 ho).1 hm).trans ho⟩
theorem StaysL.putObj {L:Nat} (M:Nat→Prop) {w:World} {l:Nat} {o:Obj} (o':Obj) (hL:L≤l) (hl:w.heap[l]?=some o) (ho:o.isCells=false):StaysL L M w (w.putObj l o') :=
 ⟨rfl,rfl,rfl,by simp,fun k o2 h2 _ hk=>by
  have:k≠l:=by
   rintro rfl
   rw[hl] at h2;cases h2
   rcases hk with h|h
   ·omega
   ·rw[ho] at h;cases h
  exact (World.putObj_heap_other this).trans h2⟩
theorem StaysL.alloc (L:Nat) (M:Nat→Prop) (w:World) (o:Obj):StaysL L M w (w.alloc o) :=
 ⟨rfl,rfl,rfl,by simp,fun k o2 h2 _ _=>(Below.heap_alloc w o k (Array.getElem?_eq_some_iff.1 h2).1).trans h2⟩
theorem StaysL.trans {L:Nat} {M:Nat→Prop} {a b c:World} (h:StaysL L M a b) (k:StaysL L M b c):StaysL L M a c :=
 ⟨k.os.trans h.os,k.tape.trans h.tape,k.output.trans h.output,Nat.le_trans h.size k.size,fun i o hi hm hc=>k.block i o (h.block i o hi hm hc) hm hc⟩
theorem StaysL.owns {L:Nat} {M:Nat→Prop} {w w':World} (h:StaysL L M w w') {base:Nat} {e:TypeId} {size:Nat} {v:Value} {n:Nat} {xs:List Value} (ho:w.ownsRow base e size v n xs) (hm:∀k,v.ownBlock=some k→¬M k):w'.ownsRow base e size v n xs:=by
 refine ⟨ho.1,ho.2.imp id ?_⟩
 rintro ⟨g,cap,cur,rfl,hb,hh,r⟩
 exact ⟨g,cap,cur,rfl,hb,h.block g _ hh (hm g rfl) (.inr rfl),r⟩
theorem StaysL.at {L:Nat} {M:Nat→Prop} {w w':World} (h:StaysL L M w w') {b:Nat} {vs:Array Value} {t:TypeId} {r:Nat × Nat} (hb:w.heap[b]?=some (.cells vs t r)) (hm:¬M b):w'.heap[b]?=some (.cells vs t r) :=
 h.block b _ hb hm (.inr rfl)
theorem StaysL.below {L:Nat} {M:Nat→Prop} {w w':World} (h:StaysL L M w w') {B:Nat} {w0:World} (hb:Below B w0 w) (hL:B≤L) (h0:B≤w0.heap.size) (hm:∀k,M k→B≤k):Below B w0 w' :=
 ⟨h.os.trans hb.os,h.tape.trans hb.tape,h.output.trans hb.output,Nat.le_trans hb.size h.size,fun k hk=>by
  have h1:=hb.block k hk
  have h2:k<w0.heap.size:=by omega
  rw[Array.getElem?_eq_getElem h2] at h1 ⊢
  exact h.block k _ h1 (fun e=>by have:=hm k e;omega) (.inl (by omega))⟩
def StableL {β:Type} (L:Nat) (J:β→(Nat→Prop)→World→Prop):Prop :=
 ∀s M M' W W',J s M W→StaysL L M W W'→(∀k,M' k→M k∨W.heap.size≤k)→J s M' W'
def StableM {β:Type} (J:β→(Nat→Prop)→World→Prop):Prop :=
 ∀s M M' W W',J s M W→Stays M W W'→(∀k,M' k→M k∨W.heap.size≤k)→J s M' W'
theorem StableL.m {β:Type} {L:Nat} {J:β→(Nat→Prop)→World→Prop} (h:StableL L J):StableM J:=fun s M M' W W' hj hs hm=>h s M M' W W' hj (hs.toL L) hm
def SeqM {α:Type} (P:Program) (g:Nat) (lb:Array Value) (encs:α→Array Value) (New:α→World→Prop) (Given:α→(Nat→Prop)→World→Prop) (Kp:(Nat→Prop)→World→World→Prop) (S Sp:List α→Prop) (M0:Nat→Prop) (w0:World):Prop :=
 ∀(l:Nat) (J Jx:List α→(Nat→Prop)→World→Prop) (W:World),Below w0.heap.size w0 W→StableM J→StableM Jx →
  (∀pre x M W0 W1,J pre M W0→Below W0.heap.size W0 W1→New x W0→Given x M W1→YieldAt Fence.wide 0 P l (encs x) W1 fun e W' =>
   (e = .returned (.bool true)∧J (pre++[x]) M W'∧Kp M W1 W')∨(e = .returned (.bool false)∧Jx (pre++[x]) M W'∧Kp M W1 W')) →
  J [] M0 W →
  Calls P g (#[.func (.yield l) #[] #[]]++lb) W fun e W'=>(∃v,e = .returned v)∧((∃xs M,S xs∧J xs M W')∨(∃pre M,Sp pre∧Jx pre M W'))
def ownPostM {α:Type} (Kp:(Nat→Prop)→World→World→Prop) (I:List α→(Nat→Prop)→World→Prop) (Ix:Code→List α→(Nat→Prop)→World→Prop) (xs:List α) (M:Nat→Prop) (W:World):Exit→Act→World→Prop
 | .normal,_,W'=>KeepsOthers W W'∧Kp M W W'∧I xs M W'
 | .ret,_,W'=>KeepsOthers W W'∧Kp M W W'∧Ix .ret xs M W'
 | .exit id,_,W'=>KeepsOthers W W'∧Kp M W W'∧Ix (.exit id) xs M W'
 | .goto t,_,W'=>KeepsOthers W W'∧Kp M W W'∧Ix (.goto t) xs M W'
 | .panic _,_,_=>False
 | .outgrown,_,_=>False
variable {P:Program}
theorem wp_rangeFunc_M {α:Type} {g:Operand} {ps:Array Tmp} {assign body:Code} {Q:Exit→Act→World→Prop} {a:Act} {w:World}
  {gf:Nat} {lb:Array Value} (hg:a.eval g = .func (.func gf) #[] lb) (eg:∀args w,(callFunc gf args).run P w = .ok (.enter gf args) w)
  {encs:α→Array Value} {New:α→World→Prop} {Given:α→(Nat→Prop)→World→Prop} {Kp:(Nat→Prop)→World→World→Prop} {S Sp:List α→Prop} {M0:Nat→Prop} (hseq:SeqM P gf lb encs New Given Kp S Sp M0 w)
  (hM0:∀k,M0 k→k<w.heap.size)
  (hGb:∀x M (W:World) l o o',Given x M W→w.heap.size≤l→¬M l→W.heap[l]?=some o→o.isCells=false→Given x M (W.putObj l o'))
  (hKt:∀{M:Nat→Prop} {A B C:World},Kp M A B→Kp M B C→Kp M A C) (hKb:∀(M:Nat→Prop) (W:World) (l:Nat) (o o':Obj),w.heap.size≤l→¬M l→W.heap[l]?=some o→o.isCells=false→Kp M W (W.putObj l o')) (hps:∀x,(encs x).size=ps.size)
  (I:List α→(Nat→Prop)→World→Prop) (Ix:Code→List α→(Nat→Prop)→World→Prop) (hI:StableL w.heap.size I) (hIx:∀c,StableL w.heap.size (Ix c)) (h0:I [] M0 w) (a₁:α→Act)
  (hassign:∀(l:Nat) (x:α) (W:World) (K:Act→World→Prop),K (a₁ x) W →
   assign.wpIn (Fence.wide.inRound l) 0 P (Exit.then K (fun _ _ _=>False)) { tmps:=(ps.zip (encs x)).foldl (fun t (p,v)=>t.setIfInBounds p v) a.tmps,defers:=[] } W)
  (hbody:∀(l:Nat) (pre:List α) (x:α) (M:Nat→Prop) (W0 W:World),I pre M W0→StaysL w.heap.size (fun _=>False) W0 W→New x W0→Given x M W→body.wpIn (Fence.wide.inRound l) 0 P (ownPostM Kp I Ix (pre++[x]) M W) (a₁ x) W)
  (hdone:∀(D:Nat) (xs:List α) (M:Nat→Prop) (W:World),w.heap.size≤D→S xs→I xs M W→W.heap[D]?=some (.deferred (some []))→Q .normal { a with defers:={ target := .collected D,args:=#[] } :: a.defers } W)
  (hstop:∀(D:Nat) (c:Code) (pre:List α) (M:Nat→Prop) (W:World),w.heap.size≤D→Sp pre→Ix c pre M W→W.heap[D]?=some (.deferred (some []))→c.wp P Q { a with defers:={ target := .collected D,args:=#[] } :: a.defers } W) :
  (Code.rangeFunc g ps assign body).wp P Q a w:=by
 refine (wpIn_wide (n:=0)).1 (wpIn_rangeFunc ?_)
 intro fn hfn
 rw[show Fence.wide.round=none from rfl]
 obtain ⟨rec,hrec⟩:∃rec:LoopState→Option Code→Loop,rec=fun st pe=>{ state:=st,pending:=pe,fn,tmps:=a.tmps,params:=ps,assign,body,defers:=w.heap.size }:=⟨_,rfl⟩
 obtain ⟨W1,hW1⟩:∃W1,(w.alloc (.deferred (some []))).alloc (.loop (rec .ready none))=W1:=⟨_,rfl⟩
 have hL1:W1.heap[w.heap.size+1]?=some (.loop (rec .ready none)):=by
  rw[← hW1];have:=World.alloc_heap_new (w.alloc (.deferred (some []))) (.loop (rec .ready none));rwa [World.size_alloc] at this
 have hK1:W1.heap[w.heap.size]?=some (.deferred (some [])):=by
  rw[← hW1];exact (Below.heap_alloc _ _ _ (by simp)).trans (World.alloc_heap_new w _)
 have hI1:I [] M0 W1:=by
  rw[← hW1]
  exact hI _ M0 M0 _ _ (hI _ M0 M0 _ _ h0 (StaysL.alloc _ _ _ _) (fun k h => .inl h)) (StaysL.alloc _ _ _ _) (fun k h => .inl h)
 have hb1:Below w.heap.size w W1:=by
  rw[← hW1];exact ((Below.refl _ w).alloc (Nat.le_refl _) _).alloc (by simp) _
 have hm1:¬M0 (w.heap.size+1):=fun h=>by have:=hM0 _ h;omega
 have hm2:¬M0 w.heap.size:=fun h=>by have:=hM0 _ h;omega
 refine ⟨w.heap.size+1,[{ target := .collected w.heap.size,args:=#[] }],W1,{ target := .fn (.func gf) lb,args:=#[.func (.yield (w.heap.size+1)) #[] #[]] },W1,gf,
  #[.func (.yield (w.heap.size+1)) #[] #[]]++lb,W1,?_,?_,?_,?_,?_,?_⟩
 ·rw[← hW1,hrec];exact run_enterLoop_outer _ _ _ _ _
 ·simp only[resolve,hg]
  simp[go_sem]
 ·intro f' hf';exact trivial
 ·simp[invoke,go_sem,eg]
 ·intro h;exact absurd h (by simp[Fence.wide])
 ·refine callsIn_wide.2 ?_
  refine (hseq (w.heap.size+1)
   (fun pre M W=>I pre M W∧W.heap[w.heap.size+1]?=some (.loop (rec .ready none))∧W.heap[w.heap.size]?=some (.deferred (some []))∧¬M (w.heap.size+1)∧¬M w.heap.size)
   (fun pre M W=>∃c,Ix c pre M W∧W.heap[w.heap.size+1]?=some (.loop (rec .done (some c)))∧W.heap[w.heap.size]?=some (.deferred (some []))∧¬M (w.heap.size+1)∧¬M w.heap.size)
   W1 hb1 ?_ ?_ ?_ ⟨hI1,hL1,hK1,hm1,hm2⟩).mono ?_
  ·rintro s M M' A B ⟨hi,hl,hk,h1,h2⟩ hs hm
   have hlt:=(Array.getElem?_eq_some_iff.1 hl).1
   refine ⟨hI.m s M M' A B hi hs hm,(hs.block _ hlt h1).trans hl,(hs.block _ (by omega) h2).trans hk,fun e=>(hm _ e).elim h1 (fun h=>by omega),fun e=>(hm _ e).elim h2 (fun h=>by omega)⟩
  ·rintro s M M' A B ⟨c,hi,hl,hk,h1,h2⟩ hs hm
   have hlt:=(Array.getElem?_eq_some_iff.1 hl).1
   refine ⟨c,(hIx c).m s M M' A B hi hs hm,(hs.block _ hlt h1).trans hl,(hs.block _ (by omega) h2).trans hk,fun e=>(hm _ e).elim h1 (fun h=>by omega),fun e=>(hm _ e).elim h2 (fun h=>by omega)⟩
  ·rintro pre x M W0 W ⟨hi,hl0,hk0,h1,h2⟩ hbl hnew hgiv
   have hlt0:w.heap.size+1<W0.heap.size:=(Array.getElem?_eq_some_iff.1 hl0).1
   have hl:=(hbl.block _ hlt0).trans hl0
   have hk:=(hbl.block _ (show w.heap.size<W0.heap.size by omega)).trans hk0
   have hlt:w.heap.size+1<W.heap.size:=(Array.getElem?_eq_some_iff.1 hl).1
   have hy:=run_yield (P:=P) (args:=encs x) hl (by rw[hrec];exact hps x)
   rw[hrec] at hy
   refine ⟨fn,_,assign,body,hy,roundIn_of_wpIn hfn (hassign _ x W _ ⟨_,run_beginRound hl (by rw[hrec]),?_⟩)⟩
   have hl2:(W.putObj (w.heap.size+1) (.loop { rec .ready none with state := .busy })).heap[w.heap.size+1]?=some (.loop { rec .ready none with state := .busy }):=World.putObj_heap_same hlt
   have hk2:(W.putObj (w.heap.size+1) (.loop { rec .ready none with state := .busy })).heap[w.heap.size]?=some (.deferred (some [])):=(World.putObj_heap_other (by omega)).trans hk
   have hw2:Kp M W (W.putObj (w.heap.size+1) (.loop { rec .ready none with state := .busy })):=hKb _ _ _ _ _ (by omega) h1 hl rfl
   refine wpIn_mono (hbody _ pre x M W0 _ hi (((Below.stays hbl (fun _=>False)).toL _).trans (StaysL.putObj _ _ (by omega) hl rfl)) hnew (hGb _ _ _ _ _ _ hgiv (by omega) h1 hl rfl)) ?_
   have fin:∀(jump:Option Code) (W3:World),KeepsOthers (W.putObj (w.heap.size+1) (.loop { rec .ready none with state := .busy })) W3 →
     (Instr.endRound (w.heap.size+1) jump).run P W3 = .ok (.bool jump.isNone) (W3.putObj (w.heap.size+1) (.loop (rec (if jump.isNone then .ready else .done) jump))) ∧
     W3.heap[w.heap.size+1]?=some (.loop { rec .ready none with state := .busy }) ∧
     (W3.putObj (w.heap.size+1) (.loop (rec (if jump.isNone then .ready else .done) jump))).heap[w.heap.size+1]?=some (.loop (rec (if jump.isNone then .ready else .done) jump)) ∧
     (W3.putObj (w.heap.size+1) (.loop (rec (if jump.isNone then .ready else .done) jump))).heap[w.heap.size]?=some (.deferred (some [])):=fun jump W3 hk3=>by
    have hl3:=hk3.same _ _ hl2 rfl
    have:=run_endRound (P:=P) jump hl3
    rw[hrec] at this ⊢
    exact ⟨this,by rw[hrec] at hl3;exact hl3,World.putObj_heap_same (Array.getElem?_eq_some_iff.1 hl3).1,(World.putObj_heap_other (by omega)).trans (hk3.same _ _ hk2 rfl)⟩
   rintro e a3 W3 hp
   cases e with
   | normal =>
    obtain ⟨hk3,hkp3,hi3⟩:=hp
    obtain ⟨hr,hl3,hl4,hk4⟩:=fin none W3 hk3
    exact ⟨_,_,hr,.inl ⟨rfl,⟨hI _ M M _ _ hi3 (StaysL.putObj M _ (by omega) hl3 rfl) (fun k h => .inl h),hl4,hk4,h1,h2⟩,hKt (hKt hw2 hkp3) (hKb _ _ _ _ _ (by omega) h1 hl3 rfl)⟩⟩
   | ret =>
    obtain ⟨hk3,hkp3,hi3⟩:=hp
    obtain ⟨hr,hl3,hl4,hk4⟩:=fin (some .ret) W3 hk3
    exact ⟨_,_,hr,.inr ⟨rfl,⟨.ret,hIx _ _ M M _ _ hi3 (StaysL.putObj M _ (by omega) hl3 rfl) (fun k h => .inl h),hl4,hk4,h1,h2⟩,hKt (hKt hw2 hkp3) (hKb _ _ _ _ _ (by omega) h1 hl3 rfl)⟩⟩
   | exit id =>
    obtain ⟨hk3,hkp3,hi3⟩:=hp
    obtain ⟨hr,hl3,hl4,hk4⟩:=fin (some (.exit id)) W3 hk3
    exact ⟨_,_,hr,.inr ⟨rfl,⟨.exit id,hIx _ _ M M _ _ hi3 (StaysL.putObj M _ (by omega) hl3 rfl) (fun k h => .inl h),hl4,hk4,h1,h2⟩,hKt (hKt hw2 hkp3) (hKb _ _ _ _ _ (by omega) h1 hl3 rfl)⟩⟩
   | goto t =>
    obtain ⟨hk3,hkp3,hi3⟩:=hp
    obtain ⟨hr,hl3,hl4,hk4⟩:=fin (some (.goto t)) W3 hk3
    exact ⟨_,_,hr,.inr ⟨rfl,⟨.goto t,hIx _ _ M M _ _ hi3 (StaysL.putObj M _ (by omega) hl3 rfl) (fun k h => .inl h),hl4,hk4,h1,h2⟩,hKt (hKt hw2 hkp3) (hKb _ _ _ _ _ (by omega) h1 hl3 rfl)⟩⟩
   | panic ch=>exact hp.elim
   | outgrown=>exact hp.elim
  ·rintro e W2 ⟨⟨v,rfl⟩,(⟨xs,M,hS,hi,hl,hk,h1,h2⟩|⟨pre,M,hSp,c,hi,hl,hk,h1,h2⟩)⟩
   ·exact ⟨none,_,by have:=run_endLoop (P:=P) hl (by rw[hrec];simp);rw[hrec] at this;exact this,hdone _ xs M _ (Nat.le_refl _) hS (hI _ M M _ _ hi (StaysL.putObj M _ (by omega) hl rfl) (fun k h => .inl h)) ((World.putObj_heap_other (by omega)).trans hk)⟩
   ·exact ⟨some c,_,by have:=run_endLoop (P:=P) hl (by rw[hrec];simp);rw[hrec] at this;exact this,wpIn_wide.2 (hstop _ c pre M _ (Nat.le_refl _) hSp (hIx c _ M M _ _ hi (StaysL.putObj M _ (by omega) hl rfl) (fun k h => .inl h)) ((World.putObj_heap_other (by omega)).trans hk))⟩
end
end Go.Proofs.YtaadpihbjhachaaGreat
