/- Texts J7 to J158 of this proof, in one file. -/
import Derived.Test.YtmfpdakaeagdpaaGreatW01
import Derived.Test.YtmfpdakaeagdpaaGreatW02
import Derived.Test.YtmfpdakaeagdpaaGreatW03
import Derived.Test.YtmfpdakaeagdpaaGreatW04
import Derived.Test.YtmfpdakaeagdpaaGreatW05
import Derived.Test.YtmfpdakaeagdpaaGreatW06
import Derived.Test.YtmfpdakaeagdpaaGreatW07
import Derived.Test.YtmfpdakaeagdpaaGreatW08
import Derived.Test.YtmfpdakaeagdpaaGreatW09
import Derived.Test.YtmfpdakaeagdpaaGreatW10
import Derived.Test.YtmfpdakaeagdpaaGreatW11
import Derived.Test.YtmfpdakaeagdpaaGreatW12
import Derived.Test.YtmfpdakaeagdpaaGreatW13
import Derived.Test.YtmfpdakaeagdpaaGreatW14
import Derived.Test.YtmfpdakaeagdpaaGreatW15
import Derived.Test.YtmfpdakaeagdpaaGreatW16
import Derived.Test.YtmfpdakaeagdpaaGreatW17
import Derived.Test.YtmfpdakaeagdpaaGreatW18
import Derived.Test.YtmfpdakaeagdpaaGreatW19
import Derived.Test.YtmfpdakaeagdpaaGreatW20
import Derived.Test.YtmfpdakaeagdpaaGreatW21
import Derived.Test.YtmfpdakaeagdpaaGreatW22
import Derived.Test.YtmfpdakaeagdpaaGreatW23
import Derived.Test.YtmfpdakaeagdpaaGreatW24
import Derived.Test.YtmfpdakaeagdpaaGreatW25
import Derived.Test.YtmfpdakaeagdpaaGreatW26
import Derived.Test.YtmfpdakaeagdpaaGreatW27
import Derived.Test.YtmfpdakaeagdpaaGreatX31n01
import Derived.Below
import Derived.BigFrame
import Derived.BigQuiet
import Derived.Deep.CutBlock
import Derived.Deep.CutRange
import Derived.Deep.LoopGhost
import Derived.Deep.Matrix
import Derived.Deep.Quiet
import Derived.Deep.RegionHeld3
import Derived.DeepKeys4
import Derived.KernelRfl
import Derived.Laws.BitsAllLaws
import Derived.Laws.EntriesVeiled
import Derived.Lib.AppendZeros
import Derived.Lib.Hide
import Derived.Lib.SlKeysI
import Derived.Lib.SliceRun
import Derived.Lib.SmallJoins
import Derived.LoopIn
import Derived.LoopNIn
import Derived.Maps.AppendAt
import Derived.Maps.OwnIn
import Derived.Maps.OwnSet
import Derived.OneCell
import Derived.OrdersHeld
import Derived.OrdersIn
import Derived.OwnWalkIn
import Derived.ProofKit
import Derived.RangeFuncBound
import Derived.RangeFuncBox
import Derived.RangeFuncCalls
import Derived.RangeFuncLeaves
import Derived.RangeFuncNested
import Derived.RangeFuncWrites
import Derived.Shelf.Abstract
import Derived.Shelf.SortM.Plain
import Derived.SizedLaws
import Derived.Still
import Derived.TacticsIn
import Derived.TacticsInMore
import Derived.Test.YtmfpdakaeagdpaaGreatProg
import Derived.WalkKit
import Derived.WalkLawsBesides
import Derived.WalkSpells
import Derived.WideKeyPair
namespace Go.Proofs.YtmfpdakaeagdpaaGreat
set_option maxRecDepth 100000
set_option maxHeartbeats 16000000
section
theorem comp_all {C:Nat}:∀{f k:Nat} {cs X:List Int},k+f=cs.length→(∀i,i<k→0≤cs[i]?.getD 0)→HasG cs X→(∀x,x∈X→0≤x∧x<(C:Int))→OnceP C X→X∈compP C (fun _ _ _=>true) f k cs:=by
 intro f
 induction f with
 | zero =>
  intro k cs X hk hb hh hv ho
  unfold compP
  rw[List.mem_singleton]
  apply List.ext_getElem hh.1
  intro i hi hi2
  have h1:=hh.2 i (hb i (by omega)) hi2
  rw[List.getElem?_eq_getElem hi,List.getElem?_eq_getElem hi2,Option.getD_some,Option.getD_some] at h1
  exact h1
 | succ f ih =>
  intro k cs X hk hb hh hv ho
  unfold compP
  by_cases h0:0≤cs[k]?.getD 0
  ·rw[if_pos h0]
   exact ih (by omega) (fun i hi=>if e:i=k then e▸h0 else hb i (by omega)) hh hv ho
  ·rw[if_neg h0,List.mem_flatMap]
   have hkl:k<cs.length:=by omega
   have hXk:k<X.length:=by rw[hh.1];exact hkl
   have hv1:=hv _ (List.getElem_mem hXk)
   have hXe:X[k]?.getD 0=X[k]:=by rw[List.getElem?_eq_getElem hXk,Option.getD_some]
   refine ⟨(X[k]).toNat,List.mem_range.2 (by omega),?_⟩
   have e1:(((X[k]).toNat:Nat):Int)=X[k]:=by omega
   rw[e1]
   have hf:freeB C cs k X[k]=true:=by
    rw[freeB_iff]
    intro d hd hdk he
    rw[Bool.eq_false_iff]
    intro hl
    have h2:=hh.2 d (by rw[he];exact hv1.1) hd
    have h3:=ho d k (by rw[hh.1];exact hd) hXk hdk hl (by rw[h2,he,hXe])
    rw[h2,he] at h3
    omega
   rw[if_pos (by rw[hf];rfl)]
   refine ih (by rw[List.length_set];omega) (fun i hi=>?_) ⟨by rw[hh.1,List.length_set],fun i hi hil=>?_⟩ hv ho
   ·rw[gset_get hkl]
    by_cases e:i=k
    ·rw[if_pos e];exact hv1.1
    ·rw[if_neg e];exact hb i (by omega)
   ·rw[List.length_set] at hil
    rw[gset_get hkl] at hi ⊢
    by_cases e:i=k
    ·rw[if_pos e,e,hXe]
    ·rw[if_neg e] at hi ⊢
     exact hh.2 i hi hil
end
section
open Go Go.RowKit Go.ChangeShapes Go.WideShapes
theorem O5.cellsG:Tryz.prog.cellsOf 24=3:=by kernel_rfl
section
variable {H:Type} {enc:TypeId × Value→H} {w:World} {held:Bool}
theorem open_grid {base:Nat} {v:Value} {d:DataW H} {p:List MemPlace} (hv:Value.okWide Tryz.prog w .any base 24 v) (h:DataW.Trod enc Tryz.prog w 0 (fun _=>true) held 24 v d p) (hz:∀n∈d.weights Tryz.prog 24,n≤reachBytes) :
  ∃(r C:Int) (a:Option Addr) (n c:Nat) (P:List Int),v = .agg #[.int .i64 r,.int .i64 C,.slice a n c]∧n≤c∧IC w a n P:=by
 obtain ⟨cs,rfl,hsz⟩:=okWide_struct Tryz.underlying24 hv
 obtain ⟨c0,c1,c2,rfl⟩:=Go.Joins.array3 (hsz.trans O5.cellsG)
 obtain ⟨fuel,hf⟩:=h
 obtain ⟨y0,y1,y2,m,hx,_,h0,h1,h2⟩:=Go.Deep.trod_struct3 Tryz.underlying24 hf
 have h0':DataW.trod enc Tryz.prog w 0 (fun _=>true) held m 3 [c0]=some y0:=by simpa [Value.cells,O1.cells3] using h0
 have h1':DataW.trod enc Tryz.prog w 0 (fun _=>true) held m 3 [c1]=some y1:=by simpa [Value.cells,O1.cells3] using h1
 have h2':DataW.trod enc Tryz.prog w 0 (fun _=>true) held m 22 [c2]=some y2:=by simpa [Value.cells,O1.cells3,O1.cells25] using h2
 simp only[Prod.mk.injEq] at hx
 obtain ⟨rfl,rfl⟩:=hx
 have hwz:∀n,n∈y2.1.weights Tryz.prog 22→n≤reachBytes:=by
  intro n hn
  refine hz n ?_
  simp only[DataW.weights,Tryz.underlying24,List.map_cons,List.map_nil,DataW.weightsEach,List.mem_append]
  exact .inr (.inr (.inl hn))
 obtain ⟨r,e0,_,_⟩:=DataW.trod_int Tryz.underlying3 h0'
 obtain ⟨C,e1,_,_⟩:=DataW.trod_int Tryz.underlying3 h1'
 obtain ⟨a,n,c,P,rfl,hc,hP⟩:=O1.ints h2' hwz
 simp only[List.cons.injEq,and_true] at e0 e1
 exact ⟨r,C,a,n,c,P,by rw[e0,e1],hc,hP⟩
end
end
section
def sumF (f:Nat→Nat):List Nat→Nat
 | []=>0
 | x :: l=>f x+sumF f l
theorem sumF_le {f g:Nat→Nat}:∀{l:List Nat},(∀x,x∈l→f x≤g x)→sumF f l≤sumF g l
 | [],_=>Nat.le_refl _
 | x :: l,h=>by
  have h1:=h x List.mem_cons_self
  have h2:=sumF_le (l:=l) (fun y hy=>h y (List.mem_cons_of_mem _ hy))
  rw[sumF,sumF]
  omega
theorem sumF_const {f:Nat→Nat} {k:Nat}:∀{l:List Nat},(∀x,x∈l→f x=k)→sumF f l=l.length*k
 | [],_=>by rw[sumF];simp
 | x :: l,h=>by rw[sumF,h x List.mem_cons_self,sumF_const (l:=l) (fun y hy=>h y (List.mem_cons_of_mem _ hy)),List.length_cons,Nat.add_mul];omega
theorem sumF_if {p:Nat→Bool} {k:Nat}:∀{l:List Nat},sumF (fun x=>if p x=true then k else 0) l=l.countP p*k
 | []=>by rw[sumF];simp
 | x :: l=>by
  rw[sumF,sumF_if (l:=l),List.countP_cons]
  by_cases h:p x=true
  ·rw[if_pos h,if_pos h,Nat.add_mul];omega
  ·rw[if_neg h,if_neg h];simp
theorem sumF_add {f g:Nat→Nat}:∀{l:List Nat},sumF (fun x=>f x+g x) l=sumF f l+sumF g l
 | []=>rfl
 | x :: l=>by rw[sumF,sumF,sumF,sumF_add (l:=l)];omega
theorem sumF_swap {p:Nat→Nat→Bool} {X:List Nat}:∀{A:List Nat},sumF (fun c=>X.countP fun x=>p c x) A=sumF (fun x=>A.countP fun c=>p c x) X
 | []=>by
  rw[sumF,sumF_const (f:=fun x=>List.countP (fun c=>p c x) []) (k:=0) (fun x _=>rfl)]
  simp
 | c :: A=>by
  have e:(fun x=>(c :: A).countP fun c=>p c x)=fun x=>(if p c x=true then 1 else 0)+A.countP fun c=>p c x:=by
   funext x
   rw[List.countP_cons]
   omega
  rw[sumF,sumF_swap (A:=A),e,sumF_add,sumF_if,Nat.mul_one]
theorem count_in {n:Nat} {l:List Nat} (hn:l.Nodup) (hr:∀x,x∈l→x<n):(List.range n).countP (fun x=>decide (x∈l))=l.length:=by
 rw[List.countP_eq_length_filter]
 apply Nat.le_antisymm
 ·exact nodupN_le (List.nodup_range.filter _) (fun x hx=>by rw[List.mem_filter,decide_eq_true_eq] at hx;exact hx.2)
 ·exact nodupN_le hn (fun x hx=>by rw[List.mem_filter,decide_eq_true_eq];exact ⟨List.mem_range.2 (hr x hx),hx⟩)
theorem count_sub {n:Nat} {p:Nat→Bool} {A:List Nat} (hn:A.Nodup) (hr:∀x,x∈A→x<n):A.countP p≤(List.range n).countP p:=by
 rw[List.countP_eq_length_filter,List.countP_eq_length_filter]
 exact nodupN_le (hn.filter _) (fun x hx=>by rw[List.mem_filter] at hx ⊢;exact ⟨List.mem_range.2 (hr x hx.1),hx.2⟩)
theorem count_not {n:Nat} {p:Nat→Bool}:(List.range n).countP (fun x=>!p x)+(List.range n).countP p=n:=by
 have h:=List.length_eq_countP_add_countP (p:=p) (l:=List.range n)
 rw[List.length_range] at h
 have e:(List.range n).countP (fun x=>!p x)=(List.range n).countP (fun a=>decide ¬p a=true):=List.countP_congr (fun x _=>by simp)
 omega
structure Rect (C rows:Nat) (cs:List Int):Prop where
 len:cs.length=rows*C
 le:rows≤C
 num:∀x,x∈cs→0≤x∧x<(C:Int)
 once:OnceP C cs
theorem Rect.get {C rows:Nat} {cs:List Int} (R:Rect C rows cs) {i j:Nat} (hi:i<rows) (hj:j<C):cs[i*C+j]?.getD 0=(symN C cs i j:Int)∧symN C cs i j<C:=by
 have h1:=cellR_lt (C:=C) hi hj
 have h2:=R.num (cs[i*C+j]?.getD 0) (by rw[List.getElem?_eq_getElem (by rw[R.len];exact h1),Option.getD_some];exact List.getElem_mem _)
 unfold symN
 omega
theorem Rect.ne {C rows:Nat} {cs:List Int} (R:Rect C rows cs) {i j k m:Nat} (hi:i<rows) (hj:j<C) (hk:k<rows) (hm:m<C) (h:i=k∧j≠m∨i≠k∧j=m):symN C cs i j≠symN C cs k m:=by
 intro e
 have g1:=R.get hi hj
 have g2:=R.get hk hm
 have d1:=gcell_div (n:=C) (i:=i) hj
 have d2:=gcell_div (n:=C) (i:=k) hm
 have hne:i*C+j≠k*C+m:=fun e2=>by
  rw[e2] at d1
  have h1:k=i:=d2.1.symm.trans d1.1
  have h2:m=j:=d2.2.symm.trans d1.2
  omega
 have h3:=R.once (i*C+j) (k*C+m) (by rw[R.len];exact cellR_lt hi hj) (by rw[R.len];exact cellR_lt hk hm) hne (by
  unfold lineB
  rw[d1.1,d1.2,d2.1,d2.2]
  rcases h with h|h
  ·simp[h.1]
  ·simp[h.2]) (by rw[g1.1,g2.1,e])
 omega
theorem pairwise_map_lt {f:Nat→Nat} {n:Nat} (h:∀a b,a<b→b<n→f a≠f b):((List.range n).map f).Nodup:=by
 rw[List.nodup_iff_pairwise_ne,List.pairwise_map]
 refine (List.pairwise_lt_range (n:=n)).imp_of_mem (fun {a b} _ hb hab=>h a b hab (List.mem_range.1 hb))
theorem Rect.col_count {C rows:Nat} {cs:List Int} (R:Rect C rows cs) {j:Nat} (hj:j<C):(List.range C).countP (fun x=>decide (x∈colN C rows cs j))=rows:=by
 unfold colN
 rw[count_in (pairwise_map_lt (fun a b hab hb=>R.ne (by omega) hj hb hj (Or.inr ⟨by omega,rfl⟩))) (fun x hx=>by
  obtain ⟨i,hi,e⟩:=List.mem_map.1 hx
  rw[← e]
  exact (R.get (List.mem_range.1 hi) hj).2)]
 rw[List.length_map,List.length_range]
theorem Rect.row {C rows:Nat} {cs:List Int} (R:Rect C rows cs) {i x:Nat} (hi:i<rows) (hx:x<C):∃j,j<C∧symN C cs i j=x:=by
 have h1:((List.range C).map fun j=>symN C cs i j).Nodup:=pairwise_map_lt (fun a b hab hb=>R.ne hi (by omega) hi hb (Or.inl ⟨rfl,by omega⟩))
 have h2:=count_in (n:=C) h1 (fun y hy=>by
  obtain ⟨j,hj,e⟩:=List.mem_map.1 hy
  rw[← e]
  exact (R.get hi (List.mem_range.1 hj)).2)
 rw[List.length_map,List.length_range] at h2
 have h3:∀y,y∈List.range C→decide (y∈(List.range C).map fun j=>symN C cs i j)=true:=by
  apply List.countP_eq_length.1
  rw[h2,List.length_range]
 have h4:=of_decide_eq_true (h3 x (List.mem_range.2 hx))
 obtain ⟨j,hj,e⟩:=List.mem_map.1 h4
 exact ⟨j,List.mem_range.1 hj,e⟩
theorem Rect.sym_count {C rows:Nat} {cs:List Int} (R:Rect C rows cs) {x:Nat} (hx:x<C):(List.range C).countP (fun c=>decide (x∈colN C rows cs c))=rows:=by
 have hc:∀m,m≤rows→∃P:List Nat,P.length=m∧∀i,i<m→P[i]?.getD 0<C∧symN C cs i (P[i]?.getD 0)=x:=by
  intro m
  induction m with
  | zero=>intro _;exact ⟨[],rfl,fun i hi=>absurd hi (by omega)⟩
  | succ m ih =>
   intro hm
   obtain ⟨P,a1,a2⟩:=ih (by omega)
   obtain ⟨j,hj,e⟩:=R.row (i:=m) (by omega) hx
   refine ⟨P++[j],by rw[List.length_append,List.length_singleton,a1],fun i hi=>?_⟩
   by_cases e2:i=m
   ·subst e2
    rw[List.getElem?_append_right (by omega),a1,Nat.sub_self]
    exact ⟨hj,e⟩
   ·rw[List.getElem?_append_left (by omega)]
    exact a2 i (by omega)
 obtain ⟨P,a1,a2⟩:=hc rows (Nat.le_refl _)
 have hg:∀i (hi:i<P.length),P[i]<C∧symN C cs i P[i]=x:=fun i hi=>by
  have:=a2 i (by omega)
  rw[List.getElem?_eq_getElem hi,Option.getD_some] at this
  exact this
 have hn:P.Nodup:=by
  rw[List.nodup_iff_pairwise_ne,List.pairwise_iff_getElem]
  intro i k hi hk hik e
  have h1:=hg i hi
  have h2:=hg k hk
  exact R.ne (i:=i) (k:=k) (by omega) h1.1 (by omega) h2.1 (Or.inr ⟨by omega,e⟩) (by rw[h1.2,h2.2])
 have h3:=count_in (n:=C) hn (fun y hy=>by obtain ⟨i,hi,e⟩:=List.getElem_of_mem hy;rw[← e];exact (hg i hi).1)
 rw[a1] at h3
 refine Eq.trans ?_ h3
 apply List.countP_congr
 intro c hc
 rw[List.mem_range] at hc
 rw[decide_eq_true_eq,decide_eq_true_eq]
 constructor
 ·intro h
  obtain ⟨i,hi,e⟩:=List.mem_map.1 h
  rw[List.mem_range] at hi
  have h4:=hg i (by omega)
  have h5:P[i]=c:=by
   by_cases h6:P[i]=c
   ·exact h6
   ·exact absurd (h4.2.trans e.symm) (R.ne hi h4.1 hi hc (Or.inl ⟨rfl,h6⟩))
  rw[← h5]
  exact List.getElem_mem _
 ·intro h
  obtain ⟨i,hi,e⟩:=List.getElem_of_mem h
  have h4:=hg i hi
  exact List.mem_map.2 ⟨i,List.mem_range.2 (by omega),by rw[← e];exact h4.2⟩
theorem leftR_mem {C rows:Nat} {cs:List Int} {j:Nat} (hj:j<C) {x:Int}:x∈(leftR C rows cs)[j]?.getD []↔∃y:Nat,x=(y:Int)∧y<C∧y ∉ colN C rows cs j:=by
 unfold leftR
 rw[List.getElem?_map,List.getElem?_range hj,Option.map_some,Option.getD_some,List.mem_map]
 constructor
 ·rintro ⟨y,hy,e⟩
  rw[List.mem_filter,List.mem_range,decide_eq_true_eq] at hy
  exact ⟨y,e.symm,hy.1,hy.2⟩
 ·rintro ⟨y,e,h1,h2⟩
  exact ⟨y,by rw[List.mem_filter,List.mem_range,decide_eq_true_eq];exact ⟨h1,h2⟩,e.symm⟩
theorem rect_free {C rows:Nat} {cs:List Int} (R:Rect C rows cs) (hlt:rows<C) {A:List Nat} (hA:Violates (leftR C rows cs) A):False:=by
 obtain ⟨N,hN,hsub⟩:=hA.few
 have hAC:∀c,c∈A→c<C:=fun c hc=>by have:=hA.lt c hc;rw[leftR_len] at this;exact this
 have s1:sumF (fun c=>(List.range C).countP fun x=>!decide (x∈colN C rows cs c)) A=A.length*(C - rows):=sumF_const (fun c hc=>by
  have h1:=R.col_count (hAC c hc)
  have h2:=count_not (n:=C) (p:=fun x=>decide (x∈colN C rows cs c))
  omega)
 rw[sumF_swap] at s1
 have s2:sumF (fun x=>A.countP fun c=>!decide (x∈colN C rows cs c)) (List.range C)≤sumF (fun x=>if decide ((x:Int)∈N)=true then C - rows else 0) (List.range C):=sumF_le (fun x hx=>by
  rw[List.mem_range] at hx
  by_cases h:decide ((x:Int)∈N)=true
  ·rw[if_pos h]
   have h1:=R.sym_count hx
   have h2:=count_not (n:=C) (p:=fun c=>decide (x∈colN C rows cs c))
   have h3:=count_sub (p:=fun c=>!decide (x∈colN C rows cs c)) hA.nodup hAC
   omega
  ·rw[if_neg h,Nat.le_zero,List.countP_eq_zero]
   intro c hc h2
   rw[Bool.not_eq_true',decide_eq_false_iff_not] at h2
   exact h (decide_eq_true (hsub c hc _ ((leftR_mem (hAC c hc)).2 ⟨x,rfl,hx,h2⟩))))
 rw[s1,sumF_if] at s2
 have h5:(List.range C).countP (fun (x:Nat)=>decide ((x:Int)∈N))≤N.length:=by
  rw[List.countP_eq_length_filter]
  have:=nodupI_le (l:=((List.range C).filter fun (x:Nat)=>decide ((x:Int)∈N)).map fun (x:Nat)=>(x:Int)) (m:=N) (by
   rw[List.nodup_iff_pairwise_ne,List.pairwise_map]
   exact (((List.pairwise_lt_range (n:=C)).sublist List.filter_sublist).imp (fun {a b} h e=>by omega))) (fun y hy=>by
   obtain ⟨x,hx,e⟩:=List.mem_map.1 hy
   rw[List.mem_filter,decide_eq_true_eq] at hx
   rw[← e]
   exact hx.2)
  rw[List.length_map] at this
  exact this
 have h6:0<C - rows:=by omega
 have h7:=Nat.le_of_mul_le_mul_right s2 h6
 omega
theorem rect_next {C rows:Nat} {cs:List Int} (R:Rect C rows cs) (hlt:rows<C):∃row,repR (leftR C rows cs) C []=some row∧Rect C (rows+1) (cs++row):=by
 have hf:feasB (leftR C rows cs)=true:=by
  have hH:Held (leftR C rows cs) 0 (fun _=>none):=⟨fun _ _ h=>(by cases h),fun _ _ _ _ h=>(by cases h),fun t ht=>absurd ht (by omega),fun _ _ h=>(by cases h)⟩
  obtain ⟨_,hb⟩:=match_ok (F:=(leftR C rows cs).flatten.length+1) (by omega) (leftR C rows cs).length 0 (fun _=>none) (by omega) hH
  unfold feasB
  cases hm:matchM (leftR C rows cs) ((leftR C rows cs).flatten.length+1) (leftR C rows cs).length 0 (fun _=>none) with
  | inl g=>rfl
  | inr A=>exact (rect_free R hlt (hb A hm).1).elim
 obtain ⟨l,hl⟩:=feasB_iff.1 hf
 have hlen:=leftR_len (C:=C) (rows:=rows) (cs:=cs)
 cases hr:repR (leftR C rows cs) C [] with
 | none=>exact (repR_none (by rw[hlen];simp) hr ⟨hl,by simp⟩).elim
 | some row =>
  obtain ⟨S,_⟩:=repR_some (by rw[hlen];simp) List.nodup_nil (fun i hi=>absurd hi (by simp)) hr
  have hrl:row.length=C:=by rw[S.len,hlen]
  have hm:∀j,j<C→∃y:Nat,row[j]?.getD 0=(y:Int)∧y<C∧y ∉ colN C rows cs j:=fun j hj=>(leftR_mem hj).1 (S.mem j (by rw[hlen];exact hj))
  refine ⟨row,rfl,⟨by rw[List.length_append,R.len,hrl,Nat.add_mul,Nat.one_mul],by omega,fun x hx=>?_,?_⟩⟩
  ·rcases List.mem_append.1 hx with h|h
   ·exact R.num x h
   ·obtain ⟨j,hj,e⟩:=List.getElem_of_mem h
    obtain ⟨y,hy,hyC,_⟩:=hm j (by omega)
    rw[List.getElem?_eq_getElem hj,Option.getD_some,e] at hy
    omega
  ·have hpos:0<C:=by omega
   have hnew:∀c,c<(cs++row).length→¬c<cs.length→c % C<C∧c=rows*C+c % C∧c / C=rows∧(cs++row)[c]?.getD 0=row[c % C]?.getD 0:=fun c hc hc2=>by
    rw[List.length_append,R.len,hrl] at hc
    rw[R.len] at hc2
    obtain ⟨j,rfl⟩:∃j,c=rows*C+j:=⟨c - rows*C,by omega⟩
    have hj:j<C:=by omega
    obtain ⟨d1,d2⟩:=gcell_div (n:=C) (i:=rows) hj
    rw[d1,d2]
    refine ⟨hj,rfl,rfl,?_⟩
    rw[List.getElem?_append_right (by rw[R.len];omega),R.len,Nat.add_sub_cancel_left]
   have hmix:∀c d,c<cs.length→d<(cs++row).length→¬d<cs.length→lineB C c d=true→(cs++row)[c]?.getD 0≠(cs++row)[d]?.getD 0:=fun c d hc hd hd2 hl e=>by
    obtain ⟨n1,n2,n3,n4⟩:=hnew d hd hd2
    have hc3:c<rows*C:=by rw[← R.len];exact hc
    have hdiv:c / C<rows:=Nat.div_lt_of_lt_mul (by rw[Nat.mul_comm];exact hc3)
    unfold lineB at hl
    rw[Bool.or_eq_true,beq_iff_eq,beq_iff_eq,n3] at hl
    have hcm:c % C=d % C:=by omega
    obtain ⟨y,hy,hyC,hno⟩:=hm (d % C) n1
    rw[n4,hy,List.getElem?_append_left hc] at e
    apply hno
    refine List.mem_map.2 ⟨c / C,List.mem_range.2 hdiv,?_⟩
    unfold symN
    rw[← hcm,Nat.div_add_mod',e]
    rfl
   intro c d hc hd hcd hl e
   by_cases h1:c<cs.length
   ·by_cases h2:d<cs.length
    ·rw[List.getElem?_append_left h1,List.getElem?_append_left h2] at e
     rw[List.getElem?_append_left h1]
     exact R.once c d h1 h2 hcd hl e
    ·exact absurd e (hmix c d h1 hd h2 hl)
   ·by_cases h2:d<cs.length
    ·rw[lineB_comm] at hl
     exact absurd e.symm (hmix d c h2 hc h1 hl)
    ·obtain ⟨n1,n2,n3,n4⟩:=hnew c hc h1
     obtain ⟨m1,m2,m3,m4⟩:=hnew d hd h2
     rw[n4,m4,List.getElem?_eq_getElem (by omega),List.getElem?_eq_getElem (by omega),Option.getD_some,Option.getD_some] at e
     have:=(List.getElem_inj (h₀:=by omega) (h₁:=by omega) S.nodup).1 e
     omega
end
section
open Go Go.RowKit
attribute [local go_sem] over_cell
attribute [local go_sem] Oper.semAt_some
theorem lgreat_c (r C:Int) (a:Option Addr) (m c:Nat) (k:Int) (w:World):Calls Tryz.prog 19 #[.agg #[.int .i64 r,.int .i64 C,.slice a m c],.int .i64 k] w fun e w'=>e = .returned (.bool (decide (k<(m:Int))))∧Below w.heap.size w w':=by
 go_enter Tryz.func19,Tryz.ntmps19
 go_upto_region 1 with fail
 have fsz:(w.alloc (.cells #[.int .i64 r,.int .i64 C,.slice a m c] 24)).heap.size=w.heap.size+1:=by simp only[World.size_alloc]
 have fB:Below w.heap.size w (w.alloc (.cells #[.int .i64 r,.int .i64 C,.slice a m c] 24)):=(Below.refl _ _).alloc (Nat.le_refl _) _
 have fq0:(w.alloc (.cells #[.int .i64 r,.int .i64 C,.slice a m c] 24)).heap[w.heap.size]?=some (.cells #[.int .i64 r,.int .i64 C,.slice a m c] 24 (0,0)):=by have h:=World.alloc_heap_new w (.cells #[.int .i64 r,.int .i64 C,.slice a m c] 24);exact h
 generalize (w.alloc (.cells #[.int .i64 r,.int .i64 C,.slice a m c] 24))=W0 at fsz fB fq0 ⊢
 obtain ⟨x0,x1,x2,xl⟩:=c3_of fq0
 clear fq0 fsz
 go_wp2_with fail
 refine bodyPost_ret (v := .bool (decide (k<(m:Int)))) ?_ rfl ⟨rfl,fB⟩
 simp[results,Tryz.f19,go_sem]
end
section
open Go Go.RowKit
attribute [local go_sem] over_cell
attribute [local go_sem] Oper.semAt_some
def opTo (cs:List Int) (k:Nat):Nat:=(cs.take k).countP fun x=>decide (x<0)
theorem opTo_succ {cs:List Int} {k:Nat} (hk:k<cs.length):opTo cs (k+1)=if cs[k]?.getD 0<0 then opTo cs k+1 else opTo cs k:=by
 unfold opTo
 rw[List.take_add_one,List.getElem?_eq_getElem hk,Option.getD_some,List.countP_append]
 by_cases h:cs[k]<0
 ·rw[if_pos h];simp[h]
 ·rw[if_neg h];simp[h]
theorem opTo_le (cs:List Int) (k:Nat):opTo cs k≤k:=by
 unfold opTo
 exact Nat.le_trans (List.countP_le_length) (by rw[List.length_take];omega)
theorem opTo_all (cs:List Int):opTo cs cs.length=opens cs:=by unfold opTo opens;rw[List.take_length]
theorem ropen4_c (r C:Int) (a:Option Addr) (n c:Nat) (cs:List Int) (w:World) (h:IC w a n cs) (hn:n≤65536) :
  Calls Tryz.prog 26 #[.agg #[.int .i64 r,.int .i64 C,.slice a n c]] w fun e w'=>e = .returned (.int .i64 (opens cs:Int))∧Below w.heap.size w w':=by
 have HL:=Lib.hid h.len
 go_enter Tryz.func26,Tryz.ntmps26
 go_upto_region 1 with fail
 have fsz:(w.alloc (.cells #[.int .i64 r,.int .i64 C,.slice a n c] 24)).heap.size=w.heap.size+1:=by simp only[World.size_alloc]
 have fB:Below w.heap.size w (w.alloc (.cells #[.int .i64 r,.int .i64 C,.slice a n c] 24)):=(Below.refl _ _).alloc (Nat.le_refl _) _
 have fq0:(w.alloc (.cells #[.int .i64 r,.int .i64 C,.slice a n c] 24)).heap[w.heap.size]?=some (.cells #[.int .i64 r,.int .i64 C,.slice a n c] 24 (0,0)):=by have h:=World.alloc_heap_new w (.cells #[.int .i64 r,.int .i64 C,.slice a n c] 24);exact h
 generalize (w.alloc (.cells #[.int .i64 r,.int .i64 C,.slice a n c] 24))=W0 at fsz fB fq0 ⊢
 have HI:=Lib.hid (h.mono fB)
 have FB:=Lib.hid fB
 obtain ⟨x0,x1,x2,xl⟩:=c3_of fq0
 clear fq0 fsz fB h
 go_wp2_with fail
 go_loopw [3,4] (fun s3 s4 wr=>∃k:Nat,k≤n∧s4 = .int .i64 (k:Int)∧s3 = .int .i64 (opTo cs k:Int)∧wr=W0) (fun _ s4 _=>n - (intOf s4).toNat)
 case atStart=>exact ⟨0,by omega,rfl,rfl,rfl⟩
 case round =>
  obtain ⟨k,hk,rfl,rfl,hwr⟩:=hrel
  replace hwr:=hwr.symm
  subst hwr
  have ho:=opTo_le cs k
  by_cases hlt:k<n
  ·have hki:(k:Int)<(n:Int):=by omega
   obtain ⟨b,off,rfl,hb,hc⟩:=HI.out.2 k hlt
   have HS:=Lib.hid (opTo_succ (cs:=cs) (k:=k) (by rw[HL.out];exact hlt))
   generalize opTo cs k=o at HS ho ⊢
   generalize cs[k]?.getD 0=x at hc HS
   by_cases h0:x<0
   ·have hd:decide (x<0)=true:=decide_eq_true h0
    have HS2:Hid (opTo cs (k+1)=o+1):=by unfold Hid;rw[HS.out,if_pos h0]
    go_wp2_with fail
    go_roundw
    case rel=>exact ⟨k+1,by omega,by go_num,by rw[HS2.out];go_num,trivial⟩
    case measure=>simp[intOf];omega
   ·have hd:decide (x<0)=false:=decide_eq_false h0
    have HS2:Hid (opTo cs (k+1)=o):=by unfold Hid;rw[HS.out,if_neg h0]
    go_wp2_with fail
    go_roundw
    case rel=>exact ⟨k+1,by omega,by go_num,by rw[HS2.out],trivial⟩
    case measure=>simp[intOf];omega
  ·have e:k=n:=by omega
   have hno:¬(k:Int)<(n:Int):=by omega
   have HO:Hid (opTo cs k=opens cs):=by unfold Hid;rw[e,← HL.out,opTo_all]
   clear e
   go_wp2_with fail
   refine bodyPost_ret (v := .int .i64 (opTo cs k:Int)) ?_ rfl ⟨by rw[HO.out],FB.out⟩
   simp[results,Tryz.f26,go_sem]
end
section
open Go Go.RowKit
attribute [local go_sem] over_cell
attribute [local go_sem] Oper.semAt_some
theorem rcopy_c (r C:Int) (a:Option Addr) (n c:Nat) (cs:List Int) (w:World) (h:IC w a n cs) (hn:n≤65536) :
  Calls Tryz.prog 44 #[.agg #[.int .i64 r,.int .i64 C,.slice a n c]] w fun e w'=>∃a2 c2,e = .returned (.agg #[.int .i64 r,.int .i64 C,.slice a2 n c2])∧w'.ownsRow (w.heap.size+2) 3 1 (.slice a2 n c2) n (cs.map (Value.int .i64))∧Below w.heap.size w w':=by
 obtain ⟨i0,hi,hz0,hz1,hz2⟩:=info_parts infoInt
 have HL:=Lib.hid h.len
 go_enter Tryz.func44,Tryz.ntmps44
 go_upto_region 1 with fail
 have fsz:((w.alloc (.cells #[.int .i64 r,.int .i64 C,.slice a n c] 24)).alloc (.cells #[.int .i64 0,.int .i64 0,.slice none 0 0] 24)).heap.size=w.heap.size+2:=by simp only[World.size_alloc] <;> omega
 have fB:Below w.heap.size w ((w.alloc (.cells #[.int .i64 r,.int .i64 C,.slice a n c] 24)).alloc (.cells #[.int .i64 0,.int .i64 0,.slice none 0 0] 24)):=((Below.refl _ _).alloc (Nat.le_refl _) _).alloc (by simp only[World.size_alloc];omega) _
 have fq0:((w.alloc (.cells #[.int .i64 r,.int .i64 C,.slice a n c] 24)).alloc (.cells #[.int .i64 0,.int .i64 0,.slice none 0 0] 24)).heap[w.heap.size]?=some (.cells #[.int .i64 r,.int .i64 C,.slice a n c] 24 (0,0)):=by have h:=World.alloc_heap_new w (.cells #[.int .i64 r,.int .i64 C,.slice a n c] 24);exact (Below.heap_alloc _ _ _ (by simp only[World.size_alloc];omega)).trans (h)
 have fq1:((w.alloc (.cells #[.int .i64 r,.int .i64 C,.slice a n c] 24)).alloc (.cells #[.int .i64 0,.int .i64 0,.slice none 0 0] 24)).heap[w.heap.size+1]?=some (.cells #[.int .i64 0,.int .i64 0,.slice none 0 0] 24 (0,0)):=by have h:=World.alloc_heap_new (w.alloc (.cells #[.int .i64 r,.int .i64 C,.slice a n c] 24)) (.cells #[.int .i64 0,.int .i64 0,.slice none 0 0] 24);simp only[World.size_alloc] at h;exact h
 generalize ((w.alloc (.cells #[.int .i64 r,.int .i64 C,.slice a n c] 24)).alloc (.cells #[.int .i64 0,.int .i64 0,.slice none 0 0] 24))=W0 at fsz fB fq0 fq1 ⊢
 have HSR:=Lib.hid ((h.mono fB).src)
 have FB:=Lib.hid fB
 have Q0:=Lib.hid fq0
 have Q1:=Lib.hid fq1
 have hs0:w.heap.size+2=W0.heap.size:=fsz.symm
 obtain ⟨x0,x1,x2,xl⟩:=c3_of fq0
 clear fq0 fq1 fsz fB h
 go_wp2_with (at_builtin;refine wpList_append_any _ rfl _ _ 22 rfl W0.heap.size 3 i0 (.int .i64 0) 8 Tryz.underlying22 hi hz0 hz1 hz2 rfl _ 0 [] rfl (World.ownsRow_made W0 #[] 0 (Nat.le_refl _) (by decide) rfl) (by rw[World.size_alloc];omega) a n c (cs.map (Value.int .i64)) rfl (by rw[List.length_map];exact HL.out) (HSR.out.mono ((Below.refl _ _).alloc (Nat.le_refl _) _)) (by intro u hu;obtain ⟨z,_,rfl⟩:=List.mem_map.1 hu;rfl) (by unfold maxLen;omega) (by omega) ?_;intro v' w1 hown hst hk;obtain ⟨a7,c7,rfl⟩:=owns_shape hown;have hB1:Below W0.heap.size W0 w1:=hst.below' (B:=W0.heap.size) (by rw[World.size_alloc];omega) (keep_alloc (Below.refl _ _) _) (fun k e=>by cases e;exact Nat.le_refl _);have HB1:=Lib.hid hB1;have q0:=keepq HB1.out Q0.out;have q1:=keepq HB1.out Q1.out;obtain ⟨y0,y1,y2,yl⟩:=c3_of q0;obtain ⟨yf0,yf1,yf2⟩:=f3_of q0;obtain ⟨z0,z1,z2,zl⟩:=c3_of q1;obtain ⟨zf0,zf1,zf2⟩:=f3_of q1)
 have hne:∀b,b<W0.heap.size→(Value.slice a7 n c7).ownBlock≠some b:=fun b hb e=>absurd (hown.lt b (by rw[Nat.zero_add];exact e)).1 (by omega)
 simp only[Nat.zero_add,List.nil_append] at hown
 have q1':=q_other (i:=2) q1 (show w.heap.size+1≠w.heap.size by omega) (.slice a7 n c7)
 have hown1:=ownsRow_setCell_other hown (a:=⟨w.heap.size,2,none⟩) (hne _ (by omega)) (.slice a7 n c7)
 have hb1:=(keep_trans FB.out HB1.out).setCell (p:=⟨w.heap.size,2,none⟩) (Nat.le_refl _) (.slice a7 n c7)
 have g3:=st3_q (x0 := .int .i64 r) (x1 := .int .i64 C) (x2 := .slice a7 n c7) q1'
 have hown3:=st3_own (x0 := .int .i64 r) (x1 := .int .i64 C) (x2 := .slice a7 n c7) hown1 (b:=w.heap.size+1) (hne _ (by omega))
 have hb3:=st3_below (x0 := .int .i64 r) (x1 := .int .i64 C) (x2 := .slice a7 n c7) (b:=w.heap.size+1) hb1 (by omega)
 obtain ⟨t0,t1,t2,tl⟩:=c3_of g3
 refine bodyPost_ret (v := .agg #[.int .i64 r,.int .i64 C,.slice a7 n c7]) ?_ rfl ⟨a7,c7,rfl,owns_base hown3 (by omega),hb3⟩
 simp[results,Tryz.f44,go_sem,t0,t1,t2]
end
section
open Go Go.RowKit
theorem nodupA_le {α:Type} [DecidableEq α]:∀{l m:List α},l.Nodup→(∀x,x∈l→x∈m)→l.length≤m.length
 | [],_,_,_=>Nat.zero_le _
 | x :: l,m,hn,hs=>by
  rw[List.nodup_cons] at hn
  have hx:=hs x List.mem_cons_self
  have h:=nodupA_le (l:=l) (m:=m.erase x) hn.2 (fun y hy=>(List.mem_erase_of_ne (fun e=>hn.1 (by rw[← e];exact hy))).2 (hs y (List.mem_cons_of_mem _ hy)))
  rw[List.length_erase_of_mem hx] at h
  have:=List.length_pos_of_mem hx
  simp only[List.length_cons]
  omega
end
section
open Go Go.RowKit
theorem rpO_eq (sets:List (List Int)):rpO sets=repR sets sets.length [] :=
 rep_eq (by simp) List.nodup_nil (fun i hi=>absurd hi (by simp)) ⟨rfl,fun i hi=>absurd hi (by simp),fun i _=>rfl⟩
end
section
theorem lat_sqE {n:Nat} {cs:List Int} (L:Latin n cs):sqE 0 (n:Int) (n:Int) cs=0:=by
 have h1:sqB (n:Int) (n:Int) cs=true:=by
  unfold sqB
  rw[L.len,← Int.natCast_mul]
  simp only[Bool.and_eq_true,decide_eq_true_eq]
  exact ⟨⟨⟨trivial,by have:=L.pos;omega⟩,by have:=L.le;omega⟩,trivial⟩
 unfold sqE
 rw[if_pos h1]
 unfold symE
 rw[if_neg,if_neg]
 ·rw[Int.toNat_natCast,L.once];decide
 ·rw[Bool.not_eq_true,List.any_eq_false]
  intro x hx
  have:=L.num x hx
  simp only[Bool.or_eq_true,decide_eq_true_eq,Int.toNat_natCast]
  omega
end
section
open Go Go.RowKit
attribute [local go_sem] over_cell
attribute [local go_sem] Oper.semAt_some
theorem opens_opN {n:Nat} {ps:List Int} (P:Part n ps):opens ps=opN ps ps.length:=by
 unfold opens opN
 rw[List.take_length]
 apply List.countP_congr
 intro x hx
 obtain ⟨i,hi,rfl⟩:=List.getElem_of_mem hx
 have:=P.ge i
 rw[List.getElem?_eq_getElem hi,Option.getD_some] at this
 rw[decide_eq_true_eq,beq_iff_eq]
 omega
end
section
open Go Go.RowKit
attribute [local go_sem] over_cell
attribute [local go_sem] Oper.semAt_some
theorem firstL_z {l:List Int}:firstL (0 :: l)=firstL l:=by
 rw[firstL];simp
end
section
open Go Go.RowKit
attribute [local go_sem] over_cell
attribute [local go_sem] Oper.semAt_some
def reE (R C:Int) (cs:List Int):Int:=if exB R C cs=true then symE 0 C.toNat cs else 2
theorem rcrect_c (R C:Int) (a:Option Addr) (n c:Nat) (cs:List Int) (w:World) (h:IC w a n cs) (hn:n≤65536) :
  Calls Tryz.prog 39 #[.agg #[.int .i64 R,.int .i64 C,.slice a n c]] w fun e w'=>e = .returned (.int .i64 (reE R C cs))∧Below w.heap.size w w':=by
 have hln:=h.len
 have hno:exB R C cs=false→reE R C cs=2:=fun e=>by unfold reE;rw[e];rfl
 by_cases c1:C<1
 ·have d1:decide (C<1)=true:=decide_eq_true c1
  have HE:=Lib.hid (hno (by unfold exB;rw[decide_eq_false (show ¬1≤C by omega)];rfl))
  clear hno h hln
  go_enter Tryz.func39,Tryz.ntmps39
  go_upto_region 1 with fail
  have fB:Below w.heap.size w (w.alloc (.cells #[.int .i64 R,.int .i64 C,.slice a n c] 24)):=(Below.refl _ _).alloc (Nat.le_refl _) _
  have FQ:Hid ((w.alloc (.cells #[.int .i64 R,.int .i64 C,.slice a n c] 24)).heap[w.heap.size]?=some (.cells #[.int .i64 R,.int .i64 C,.slice a n c] 24 (0,0))):=World.alloc_heap_new _ _
  generalize (w.alloc (.cells #[.int .i64 R,.int .i64 C,.slice a n c] 24))=W0 at fB FQ ⊢
  obtain ⟨x0,x1,x2,xl⟩:=c3_of FQ.out
  have FB:=Lib.hid fB
  clear fB
  go_wp2_with fail
  refine bodyPost_ret (v := .int .i64 2) ?_ rfl ⟨by rw[HE.out],FB.out⟩
  simp[results,Tryz.f39,go_sem]
 have d1:decide (C<1)=false:=decide_eq_false c1
 by_cases c2:16<C
 ·have d2:decide (16<C)=true:=decide_eq_true c2
  have HE:=Lib.hid (hno (by unfold exB;rw[decide_eq_false (show ¬C≤16 by omega)];simp))
  clear hno h hln
  go_enter Tryz.func39,Tryz.ntmps39
  go_upto_region 1 with fail
  have fB:Below w.heap.size w (w.alloc (.cells #[.int .i64 R,.int .i64 C,.slice a n c] 24)):=(Below.refl _ _).alloc (Nat.le_refl _) _
  have FQ:Hid ((w.alloc (.cells #[.int .i64 R,.int .i64 C,.slice a n c] 24)).heap[w.heap.size]?=some (.cells #[.int .i64 R,.int .i64 C,.slice a n c] 24 (0,0))):=World.alloc_heap_new _ _
  generalize (w.alloc (.cells #[.int .i64 R,.int .i64 C,.slice a n c] 24))=W0 at fB FQ ⊢
  obtain ⟨x0,x1,x2,xl⟩:=c3_of FQ.out
  have FB:=Lib.hid fB
  clear fB
  go_wp2_with fail
  refine bodyPost_ret (v := .int .i64 2) ?_ rfl ⟨by rw[HE.out],FB.out⟩
  simp[results,Tryz.f39,go_sem]
 have d2:decide (16<C)=false:=decide_eq_false c2
 by_cases c3:R<0
 ·have d3:decide (R<0)=true:=decide_eq_true c3
  have HE:=Lib.hid (hno (by unfold exB;rw[decide_eq_false (show ¬0≤R by omega)];simp))
  clear hno h hln
  go_enter Tryz.func39,Tryz.ntmps39
  go_upto_region 1 with fail
  have fB:Below w.heap.size w (w.alloc (.cells #[.int .i64 R,.int .i64 C,.slice a n c] 24)):=(Below.refl _ _).alloc (Nat.le_refl _) _
  have FQ:Hid ((w.alloc (.cells #[.int .i64 R,.int .i64 C,.slice a n c] 24)).heap[w.heap.size]?=some (.cells #[.int .i64 R,.int .i64 C,.slice a n c] 24 (0,0))):=World.alloc_heap_new _ _
  generalize (w.alloc (.cells #[.int .i64 R,.int .i64 C,.slice a n c] 24))=W0 at fB FQ ⊢
  obtain ⟨x0,x1,x2,xl⟩:=c3_of FQ.out
  have FB:=Lib.hid fB
  clear fB
  go_wp2_with fail
  refine bodyPost_ret (v := .int .i64 2) ?_ rfl ⟨by rw[HE.out],FB.out⟩
  simp[results,Tryz.f39,go_sem]
 have d3:decide (R<0)=false:=decide_eq_false c3
 by_cases c4:C<R
 ·have d4:decide (C<R)=true:=decide_eq_true c4
  have HE:=Lib.hid (hno (by unfold exB;rw[decide_eq_false (show ¬R≤C by omega)];simp))
  clear hno h hln
  go_enter Tryz.func39,Tryz.ntmps39
  go_upto_region 1 with fail
  have fB:Below w.heap.size w (w.alloc (.cells #[.int .i64 R,.int .i64 C,.slice a n c] 24)):=(Below.refl _ _).alloc (Nat.le_refl _) _
  have FQ:Hid ((w.alloc (.cells #[.int .i64 R,.int .i64 C,.slice a n c] 24)).heap[w.heap.size]?=some (.cells #[.int .i64 R,.int .i64 C,.slice a n c] 24 (0,0))):=World.alloc_heap_new _ _
  generalize (w.alloc (.cells #[.int .i64 R,.int .i64 C,.slice a n c] 24))=W0 at fB FQ ⊢
  obtain ⟨x0,x1,x2,xl⟩:=c3_of FQ.out
  have FB:=Lib.hid fB
  clear fB
  go_wp2_with fail
  refine bodyPost_ret (v := .int .i64 2) ?_ rfl ⟨by rw[HE.out],FB.out⟩
  simp[results,Tryz.f39,go_sem]
 have d4:decide (C<R)=false:=decide_eq_false c4
 obtain ⟨r,rfl⟩:∃r:Nat,R=(r:Int):=⟨R.toNat,by omega⟩
 obtain ⟨k,rfl⟩:∃k:Nat,C=(k:Int):=⟨C.toNat,by omega⟩
 have hmm:r*k≤16*16:=Nat.mul_le_mul (by omega) (by omega)
 have hp:(r:Int)*(k:Int)=((r*k:Nat):Int):=(Int.natCast_mul _ _).symm
 by_cases c5:n=r*k
 ·have HE:Hid (reE (r:Int) (k:Int) cs=symE 0 k cs):=by
   unfold Hid reE
   rw[if_pos,Int.toNat_natCast]
   unfold exB
   rw[hln,hp,c5]
   simp only[Bool.and_eq_true,decide_eq_true_eq]
   refine ⟨⟨⟨⟨?_,?_⟩,?_⟩,?_⟩,?_⟩ <;> first|omega|trivial|rfl
  have d5:((n:Int) != ((r*k:Nat):Int))=false:=by rw[c5];simp
  generalize r*k=p at hmm hp d5
  have HS:=Lib.hid (fun W (hb:Below w.heap.size w W)=>rlsym_c (r:Int) k a n c cs 0 W (h.mono hb) (by omega) hn)
  generalize symE 0 k cs=er at HS HE
  clear hno h hln c5
  go_enter Tryz.func39,Tryz.ntmps39
  go_upto_region 1 with fail
  have fB:Below w.heap.size w (w.alloc (.cells #[.int .i64 (r:Int),.int .i64 (k:Int),.slice a n c] 24)):=(Below.refl _ _).alloc (Nat.le_refl _) _
  have FQ:Hid ((w.alloc (.cells #[.int .i64 (r:Int),.int .i64 (k:Int),.slice a n c] 24)).heap[w.heap.size]?=some (.cells #[.int .i64 (r:Int),.int .i64 (k:Int),.slice a n c] 24 (0,0))):=World.alloc_heap_new _ _
  generalize (w.alloc (.cells #[.int .i64 (r:Int),.int .i64 (k:Int),.slice a n c] 24))=W0 at fB FQ ⊢
  obtain ⟨x0,x1,x2,xl⟩:=c3_of FQ.out
  have FB:=Lib.hid fB
  clear fB
  go_wp2_with (first|(go_at_call 100;(with_reducible refine (HS.out _ FB.out).mono ?_);rintro _ w5 ⟨rfl,hb5⟩)|fail)
  refine bodyPost_ret (v := .int .i64 er) ?_ rfl ⟨by rw[HE.out],keep_trans FB.out hb5⟩
  simp[results,Tryz.f39,go_sem]
 ·have HE:=Lib.hid (hno (by
   unfold exB
   rw[hln,hp,decide_eq_false (show ¬(n:Int)=((r*k:Nat):Int) by omega),Bool.and_false]))
  have d5:((n:Int) != ((r*k:Nat):Int))=true:=by simpa using (show ¬(n:Int)=((r*k:Nat):Int) by omega)
  generalize r*k=p at hmm hp d5
  clear hno h hln c5
  go_enter Tryz.func39,Tryz.ntmps39
  go_upto_region 1 with fail
  have fB:Below w.heap.size w (w.alloc (.cells #[.int .i64 (r:Int),.int .i64 (k:Int),.slice a n c] 24)):=(Below.refl _ _).alloc (Nat.le_refl _) _
  have FQ:Hid ((w.alloc (.cells #[.int .i64 (r:Int),.int .i64 (k:Int),.slice a n c] 24)).heap[w.heap.size]?=some (.cells #[.int .i64 (r:Int),.int .i64 (k:Int),.slice a n c] 24 (0,0))):=World.alloc_heap_new _ _
  generalize (w.alloc (.cells #[.int .i64 (r:Int),.int .i64 (k:Int),.slice a n c] 24))=W0 at fB FQ ⊢
  obtain ⟨x0,x1,x2,xl⟩:=c3_of FQ.out
  have FB:=Lib.hid fB
  clear fB
  go_wp2_with fail
  refine bodyPost_ret (v := .int .i64 2) ?_ rfl ⟨by rw[HE.out],FB.out⟩
  simp[results,Tryz.f39,go_sem]
end
section
open Go Go.RowKit
attribute [local go_sem] over_cell
attribute [local go_sem] Oper.semAt_some
theorem ic_take {w:World} {a:Option Addr} {n:Nat} {xs:List Int} (h:IC w a n xs) {m:Nat} (hm:m≤n):IC w a m (xs.take m) :=
 ⟨⟨by rw[List.length_take,h.len];omega,by have:=h.small;omega⟩,fun k hk=>by
  obtain ⟨b,off,e,hl,hc⟩:=h.2 k (by omega)
  exact ⟨b,off,e,hl,by rw[List.getElem?_take_of_lt hk];exact hc⟩⟩
end
section
theorem lexB_of:∀{k:Nat} {a b:List Int},k<a.length→k<b.length→(∀i,i<k→a[i]?.getD 0=b[i]?.getD 0)→a[k]?.getD 0<b[k]?.getD 0→lexB a b=true
 | 0,x :: a,y :: b,_,_,_,h=>by
  have h2:x<y:=by simpa using h
  rw[lexB,if_neg (by omega)]
  exact decide_eq_true h2
 | k+1,x :: a,y :: b,ha,hb,he,h=>by
  have h0:x=y:=by simpa using he 0 (by omega)
  rw[lexB,if_pos h0]
  exact lexB_of (k:=k) (by simpa using ha) (by simpa using hb) (fun i hi=>by simpa using he (i+1) (by omega)) (by simpa using h)
theorem lexB_irr:∀a:List Int,lexB a a=false
 | []=>rfl
 | x :: a=>by rw[lexB,if_pos rfl];exact lexB_irr a
theorem comp_pre {C:Nat} {ok:Nat→Int→List Int→Bool}:∀{f k:Nat} {cs X:List Int},k+f=cs.length→X∈compP C ok f k cs→X.length=cs.length∧∀i,i<k→X[i]?.getD 0=cs[i]?.getD 0
 | 0,k,cs,X,_,hx=>by
  rw[compP,List.mem_singleton] at hx
  subst hx
  exact ⟨rfl,fun _ _=>rfl⟩
 | f+1,k,cs,X,h,hx=>by
  rw[compP] at hx
  split at hx
  ·have h2:=comp_pre (k:=k+1) (by omega) hx
   exact ⟨h2.1,fun i hi=>h2.2 i (by omega)⟩
  ·rw[List.mem_flatMap] at hx
   obtain ⟨x,_,hx⟩:=hx
   split at hx
   ·have h2:=comp_pre (k:=k+1) (cs:=cs.set k (x:Int)) (by rw[List.length_set];omega) hx
    rw[List.length_set] at h2
    exact ⟨h2.1,fun i hi=>by rw[h2.2 i (by omega),gset_get (by omega),if_neg (by omega)]⟩
   ·cases hx
theorem comp_sorted {C:Nat} {ok:Nat→Int→List Int→Bool}:∀{f k:Nat} {cs:List Int},k+f=cs.length→(compP C ok f k cs).Pairwise (fun a b=>lexB a b=true)
 | 0,k,cs,_=>by rw[compP];exact List.pairwise_singleton _ _
 | f+1,k,cs,h=>by
  rw[compP]
  split
  ·exact comp_sorted (by omega)
  ·rw[List.pairwise_flatMap]
   refine ⟨fun x _=>?_,?_⟩
   ·split
    ·exact comp_sorted (by rw[List.length_set];omega)
    ·exact List.Pairwise.nil
   ·refine (List.pairwise_lt_range (n:=C)).imp ?_
    intro x y hxy a ha b hb
    split at ha
    ·split at hb
     ·have h1:=comp_pre (k:=k+1) (cs:=cs.set k (x:Int)) (by rw[List.length_set];omega) ha
      have h2:=comp_pre (k:=k+1) (cs:=cs.set k (y:Int)) (by rw[List.length_set];omega) hb
      rw[List.length_set] at h1 h2
      have hk:k<cs.length:=by omega
      refine lexB_of (k:=k) (by omega) (by omega) (fun i hi=>?_) ?_
      ·rw[h1.2 i (by omega),h2.2 i (by omega),gset_get hk,gset_get hk,if_neg (by omega),if_neg (by omega)]
      ·rw[h1.2 k (by omega),h2.2 k (by omega),gset_get hk,gset_get hk,if_pos rfl,if_pos rfl]
       omega
     ·cases hb
    ·cases ha
theorem comp_nodup {C:Nat} {ok:Nat→Int→List Int→Bool} {f k:Nat} {cs:List Int} (h:k+f=cs.length):(compP C ok f k cs).Nodup:=by
 rw[List.nodup_iff_pairwise_ne]
 exact (comp_sorted h).imp fun {a b} hab e=>by
  rw[e,lexB_irr] at hab
  cases hab
theorem part_mem {N:Nat} {ps:List Int} (P:Part N ps):∀x,x∈ps→x<(N:Int):=fun x hx=>by
 obtain ⟨i,hi,rfl⟩:=List.getElem_of_mem hx
 have:=P.lt i
 rw[List.getElem?_eq_getElem hi,Option.getD_some] at this
 exact this
theorem comp_what {N:Nat} {ps X:List Int} (P:Part N ps) (h:X∈compP N okT (N*N) 0 ps):Latin N X∧HasG ps X:=by
 obtain ⟨h1,h2,h3,h4⟩:=comp_sound (k:=0) (by rw[P.len];omega) (fun i hi=>absurd hi (by omega)) (part_mem P) (once_iff.1 P.once) h
 refine ⟨⟨by rw[h1.1,P.len],P.n1,P.n2,fun x hx=>⟨?_,h3 x hx⟩,once_iff.2 h4⟩,h1⟩
 obtain ⟨i,hi,rfl⟩:=List.getElem_of_mem hx
 have:=h2 i
 rw[List.getElem?_eq_getElem hi,Option.getD_some] at this
 exact this
theorem part_less {N:Nat} {ps:List Int} (P:Part N ps) {c:Nat} (hc:c<ps.length):Part N (ps.set c (-1)):=by
 have hg:∀j:Nat,(ps.set c (-1))[j]?.getD 0=if j=c then -1 else ps[j]?.getD 0:=fun j=>gset_get hc
 refine ⟨P.n1,P.n2,by rw[List.length_set,P.len],fun j=>?_,fun j=>?_,once_iff.2 fun a b ha hb hab hl he=>?_⟩
 ·rw[hg];have:=P.ge j;split <;> omega
 ·rw[hg];have:=P.lt j;split <;> omega
 ·rw[List.length_set] at ha hb
  rw[hg,hg] at he
  rw[hg]
  split
  ·omega
  ·rename_i h1
   rw[if_neg h1] at he
   by_cases h2:b=c
   ·rw[if_pos h2] at he;omega
   ·rw[if_neg h2] at he
    exact once_iff.1 P.once a b ha hb hab hl he
theorem less_le {N:Nat} {ps:List Int} (P:Part N ps) {c:Nat} (hc:c<ps.length):(compP N okT (N*N) 0 ps).length≤(compP N okT (N*N) 0 (ps.set c (-1))).length:=by
 refine nodupA_le (comp_nodup (by rw[P.len];omega)) fun X hX=>?_
 obtain ⟨L,hl,hg⟩:=comp_what P hX
 refine comp_all (k:=0) (by rw[List.length_set,P.len];omega) (fun i hi=>absurd hi (by omega)) ⟨by rw[hl,List.length_set],fun i h0 hi=>?_⟩ L.num (once_iff.1 L.once)
 rw[gset_get hc] at h0 ⊢
 rw[List.length_set] at hi
 split at h0
 ·omega
 ·rename_i h1
  rw[if_neg h1]
  exact hg i h0 hi
theorem opens_set1 (x:Int):∀(ps:List Int) (c:Nat),opens (ps.set c x)≤opens ps+1
 | [],c=>by simp[opens]
 | y :: ps,0=>by
  unfold opens
  rw[List.set_cons_zero,List.countP_cons,List.countP_cons]
  split <;> split <;> omega
 | y :: ps,c+1=>by
  have:=opens_set1 x ps c
  unfold opens at this ⊢
  rw[List.set_cons_succ,List.countP_cons,List.countP_cons]
  omega
theorem coL_small {N:Nat} {ps:List Int} (P:Part N ps) (h7:N≤7) (ho:opens ps≤25) {k:Nat} (hk1:1≤k) (hk2:k≤256):coL (N:Int) (N:Int) ps (k:Int)=(compP N okT (N*N) 0 ps).take k∧coEr (N:Int) (N:Int) ps (k:Int)=whenV (decide (((compP N okT (N*N) 0 ps).take k).length=0)) 21:=by
 have hsq:sqE (-1) (N:Int) (N:Int) ps=0:=by
  unfold sqE
  rw[if_pos]
  ·unfold symE
   rw[if_neg,if_neg (by rw[Int.toNat_natCast,P.once];decide)]
   rw[Bool.not_eq_true,List.any_eq_false]
   intro x hx
   obtain ⟨i,hi,rfl⟩:=List.getElem_of_mem hx
   have h1:=P.lt i
   have h2:=P.ge i
   rw[List.getElem?_eq_getElem hi,Option.getD_some] at h1 h2
   simp only[Bool.or_eq_true,decide_eq_true_eq]
   omega
  ·have:=P.n1
   have:=P.n2
   unfold sqB
   simp only[Bool.and_eq_true,decide_eq_true_eq]
   exact ⟨⟨⟨trivial,by omega⟩,by omega⟩,by rw[P.len];simp⟩
 have hE:coE (N:Int) (N:Int) ps (k:Int)=0:=by
  unfold coE
  rw[hsq,firstL_z,decide_eq_false (show ¬(k:Int)<1 by omega),decide_eq_false (show ¬(256:Int)<(k:Int) by omega)]
  rfl
 have hB:coB (N:Int) ps=false:=by
  unfold coB
  rw[← opens_opN P,decide_eq_false (show ¬(7:Int)<(N:Int) by omega),decide_eq_false (show ¬(25:Int)<(opens ps:Int) by omega)]
  rfl
 have hL:coL (N:Int) (N:Int) ps (k:Int)=(compP N okT (N*N) 0 ps).take k:=by
  unfold coL
  rw[if_pos hE,if_neg (by rw[hB];decide),Int.toNat_natCast,Int.toNat_natCast]
 refine ⟨hL,?_⟩
 unfold coEr
 rw[if_pos hE,if_neg (by rw[hB];decide),hL]
theorem rect_of {K R:Nat} {cs:List Int} (hl:cs.length=R*K) (hR:R≤K) (h:symE 0 K cs=0):Rect K R cs:=by
 unfold symE at h
 split at h
 ·cases h
 ·rename_i h1
  split at h
  ·cases h
  ·rename_i h2
   refine ⟨hl,hR,fun x hx=>?_,once_iff.1 (by simpa using h2)⟩
   rw[Bool.not_eq_true,List.any_eq_false] at h1
   have:=h1 x hx
   simp only[Bool.or_eq_true,decide_eq_true_eq] at this
   omega
theorem rect_sym {K R:Nat} {cs:List Int} (H:Rect K R cs):symE 0 K cs=0:=by
 unfold symE
 rw[if_neg,if_neg (by rw[once_iff.2 H.once];decide)]
 rw[Bool.not_eq_true,List.any_eq_false]
 intro x hx
 have:=H.num x hx
 simp only[Bool.or_eq_true,decide_eq_true_eq]
 omega
theorem rect_exB {K R:Nat} {cs:List Int} (h1:1≤K) (h2:K≤16) (H:Rect K R cs):exB (R:Int) (K:Int) cs=true:=by
 have:=H.le
 unfold exB
 simp only[Bool.and_eq_true,decide_eq_true_eq]
 exact ⟨⟨⟨⟨by omega,by omega⟩,by omega⟩,by omega⟩,by rw[H.len];simp⟩
theorem rect_reE {K R:Nat} {cs:List Int} (h1:1≤K) (h2:K≤16) (H:Rect K R cs):reE (R:Int) (K:Int) cs=0:=by
 unfold reE
 rw[if_pos (rect_exB h1 h2 H),Int.toNat_natCast]
 exact rect_sym H
theorem rect_ext {K R:Nat} {cs:List Int} (h1:1≤K) (h2:K≤16) (H:Rect K R cs) (hlt:R<K):∃row,exE (R:Int) (K:Int) cs=0∧exL (R:Int) (K:Int) cs=cs++row∧Rect K (R+1) (cs++row):=by
 obtain ⟨row,hr,hR⟩:=rect_next H hlt
 have hE:exE (R:Int) (K:Int) cs=0:=by
  unfold exE
  rw[if_pos (rect_exB h1 h2 H),Int.toNat_natCast,rect_sym H,firstL_z,show ((R:Int)==(K:Int))=false by simpa using (show ¬(R:Int)=(K:Int) by omega)]
  rfl
 refine ⟨row,hE,?_,hR⟩
 unfold exL
 rw[if_pos hE,Int.toNat_natCast,Int.toNat_natCast,rpO_eq,leftR_len,hr]
 rfl
theorem rect_square {K:Nat} {cs:List Int} (h1:1≤K) (h2:K≤16) (H:Rect K K cs):sqE 0 (K:Int) (K:Int) cs=0 :=
 lat_sqE ⟨H.len,h1,h2,H.num,once_iff.2 H.once⟩
end
end Go.Proofs.YtmfpdakaeagdpaaGreat
