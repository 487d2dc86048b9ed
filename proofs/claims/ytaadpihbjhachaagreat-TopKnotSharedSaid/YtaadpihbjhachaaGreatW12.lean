/- Texts O1 to Q1 of this proof, in one file. -/
import Derived.Test.YtaadpihbjhachaaGreatW01
import Derived.Test.YtaadpihbjhachaaGreatW03
import Derived.Test.YtaadpihbjhachaaGreatW05
import Derived.Test.YtaadpihbjhachaaGreatW08
import Derived.Test.YtaadpihbjhachaaGreatW09
import Derived.Test.YtaadpihbjhachaaGreatW10
import Derived.Test.YtaadpihbjhachaaGreatW11
import Derived.ProofKit
import Derived.SizedLaws
import Derived.Deep.Matrix
import Derived.Lib.SmallJoins
import Derived.Deep.CutBlock
import Derived.Deep.CutRange
import Derived.Below
namespace Go.Proofs.YtaadpihbjhachaaGreat
set_option maxRecDepth 100000
set_option maxHeartbeats 16000000
section
open Go Go.RowKit Go.ChangeShapes Go.WideShapes
theorem O1.cells24:Tryz.prog.cellsOf 24=2:=by kernel_rfl
theorem O1.cells27:Tryz.prog.cellsOf 27=4:=by kernel_rfl
theorem O1.cells3:Tryz.prog.cellsOf 3=1:=by kernel_rfl
theorem O1.cells22:Tryz.prog.cellsOf 22=1:=by kernel_rfl
theorem O1.cells25:Tryz.prog.cellsOf 25=1:=by kernel_rfl
theorem O1.bytes25:Tryz.prog.bytesOf 25=24:=by kernel_rfl
theorem O1.bytes3:Tryz.prog.bytesOf 3=8:=by kernel_rfl
theorem O1.reach:reachBytes=140737488351232:=rfl
theorem O1.weightsAll_mem {H:Type} {P:Program} {e:TypeId}:∀{l:List (DataW H)} {d:DataW H},d∈l→∀n∈d.weights P e,n∈DataW.weightsAll P e l
 | d' :: r,d,hd,n,hn=>by
  simp only[DataW.weightsAll,List.mem_append]
  rcases List.mem_cons.1 hd with rfl|h
  ·exact Or.inl hn
  ·exact Or.inr (O1.weightsAll_mem h n hn)
section
variable {H:Type} {enc:TypeId × Value→H} {w:World} {held:Bool}
theorem O1.ints {fuel:Nat} {c:Value} {y:DataW H × List MemPlace} (h:DataW.trod enc Tryz.prog w 0 (fun _=>true) held fuel 25 [c]=some y) (hz:∀n∈y.1.weights Tryz.prog 25,n≤reachBytes) :
  ∃a n cap g,c = .slice a n cap∧n≤cap∧IC w a n g:=by
 rcases open_ints Tryz.underlying25 Tryz.underlying3 O1.cells3 h with ⟨hcs,_⟩|⟨x,l,cap,zs,hcs,_,hl,hm,hzl,hy,hcell,hwz⟩
 ·simp only[List.cons.injEq,and_true] at hcs
  exact ⟨none,0,0,[],hcs,Nat.le_refl _,⟨rfl,by omega⟩,fun k hk=>absurd hk (Nat.not_lt_zero _)⟩
 ·simp only[List.cons.injEq,and_true] at hcs
  simp only[if_true] at hzl
  rw[hy] at hz
  have h1:=hz _ (by simp only[DataW.weights,Tryz.underlying25];exact List.mem_cons_self)
  simp only[lits,List.length_map,List.length_take,List.length_drop,O1.bytes3,O1.reach] at h1
  refine ⟨some x,l,cap,zs.take l,hcs,hl,⟨by rw[List.length_take];omega,by omega⟩,fun k hk=>?_⟩
  have h2:=hcell k (by omega)
  obtain ⟨b,off,spot⟩:=x
  have hs:spot=none:=by simpa [Addr.add] using World.cell?_spot (hcell 0 (by omega))
  subst hs
  have h3:w.cell? ⟨b,off+k,none⟩=some (.int .i64 (zs.getD k 0)):=by rw[add_plain] at h2;exact h2
  refine ⟨b,off,rfl,World.block_lt_of_cell? _ _ h3,?_⟩
  rw[h3,List.getElem?_take,if_pos hk]
  simp[List.getD]
theorem O1.rows {fuel:Nat} {c:Value} {y:DataW H × List MemPlace} (h:DataW.trod enc Tryz.prog w 0 (fun _=>true) held fuel 22 [c]=some y) (hz:∀n∈y.1.weights Tryz.prog 22,n≤reachBytes) :
  ∃a n cap ls,c = .slice a n cap∧n≤cap∧RC w a n ls:=by
 rcases Go.Deep.open_int_rows Tryz.underlying22 Tryz.underlying25 Tryz.underlying3 O1.cells25 O1.cells3 h with ⟨hcs,_⟩|⟨x,l,cap,A,L,C,Z,hcs,_,hl,hm,hy,hrow⟩
 ·simp only[List.cons.injEq,and_true] at hcs
  exact ⟨none,0,0,[],hcs,Nat.le_refl _,⟨rfl,by omega⟩,fun k hk=>absurd hk (Nat.not_lt_zero _)⟩
 ·simp only[List.cons.injEq,and_true] at hcs
  rw[hy] at hz
  have h1:=hz _ (by simp only[DataW.weights,Tryz.underlying22];exact List.mem_cons_self)
  simp only[List.length_map,List.length_range,O1.bytes25,O1.reach] at h1
  have hin:∀r,r<l→C r≤17592186044416:=by
   intro r hr
   obtain ⟨_,hLC,_,hZ,_,hnil,_⟩:=hrow r (by omega)
   cases hA:A r with
   | none=>rw[hnil hA];omega
   | some a' =>
    have h2:=hz ((((Z r).take (L r)).length+((Z r).drop (L r)).length)*8) (by
     simp only[DataW.weights,Tryz.underlying22]
     refine List.mem_cons_of_mem _ (List.mem_append_left _ (O1.weightsAll_mem (d:=Go.Deep.intRow .i64 (A r) (L r) (Z r)) (List.mem_map.2 ⟨r,List.mem_range.2 hr,rfl⟩) _ ?_))
     simp only[Go.Deep.intRow,hA,DataW.weights,Tryz.underlying25,lits,List.length_map,O1.bytes3]
     exact List.mem_cons_self)
    rw[List.length_take,List.length_drop,O1.reach] at h2
    omega
  obtain ⟨b,off,spot⟩:=x
  refine ⟨some ⟨b,off,spot⟩,l,cap,(List.range l).map (fun r=>(Z r).take (L r)),hcs,hl,⟨by simp,by omega⟩,fun r hr=>?_⟩
  obtain ⟨hc,hLC,_,hZ,_,hnil,hcells⟩:=hrow r (by omega)
  have hs:spot=none:=by simpa [Addr.add] using World.cell?_spot (hrow 0 (by omega)).1
  subst hs
  have h3:w.cell? ⟨b,off+r,none⟩=some (.slice (A r) (L r) (C r)):=by rw[add_plain] at hc;exact hc
  have hCr:=hin r hr
  refine ⟨b,off,A r,L r,C r,rfl,World.block_lt_of_cell? _ _ h3,h3,?_,hLC⟩
  rw[List.getElem?_map,List.getElem?_range hr]
  refine ⟨⟨by simp only[Option.map_some,Option.getD_some];rw[List.length_take];omega,by omega⟩,fun k hk=>?_⟩
  cases hA:A r with
  | none=>have:=hnil hA;omega
  | some a' =>
   have h4:=(hcells a' hA).2 k (by omega)
   obtain ⟨b',off',spot'⟩:=a'
   have hs':spot'=none:=by simpa [Addr.add] using World.cell?_spot ((hcells _ hA).2 0 (by omega))
   subst hs'
   have h5:w.cell? ⟨b',off'+k,none⟩=some (.int .i64 ((Z r).getD k 0)):=by rw[add_plain] at h4;exact h4
   refine ⟨b',off',rfl,World.block_lt_of_cell? _ _ h5,?_⟩
   rw[h5]
   simp only[Option.map_some,Option.getD_some]
   rw[List.getElem?_take,if_pos hk]
   simp[List.getD]
theorem open_task {base:Nat} {v:Value} {d:DataW H} {p:List MemPlace} (hv:Value.okWide Tryz.prog w .any base 27 v) (h:DataW.Trod enc Tryz.prog w 0 (fun _=>true) held 27 v d p) (hz:∀n∈d.weights Tryz.prog 27,n≤reachBytes) :
  ∃(cells sum:Int) (a:Option Addr) (n c:Nat) (ls:List (List Int)) (a':Option Addr) (n' c':Nat) (g:List Int),v = .agg #[.int .i64 cells,.slice a n c,.int .i64 sum,.slice a' n' c']∧n≤c∧n'≤c'∧RC w a n ls∧IC w a' n' g:=by
 obtain ⟨cs,rfl,hsz⟩:=okWide_struct Tryz.underlying27 hv
 obtain ⟨c0,c1,c2,c3,rfl⟩:=Go.Joins.array4 (hsz.trans O1.cells27)
 obtain ⟨fuel,hf⟩:=h
 obtain ⟨y0,y1,y2,m,hx,_,h0,h1,h2⟩:=Go.Deep.trod_struct3 Tryz.underlying27 hf
 have h0':DataW.trod enc Tryz.prog w 0 (fun _=>true) held m 24 [c0,c1]=some y0:=by simpa [Value.cells,O1.cells24] using h0
 have h1':DataW.trod enc Tryz.prog w 0 (fun _=>true) held m 3 [c2]=some y1:=by simpa [Value.cells,O1.cells3] using h1
 have h2':DataW.trod enc Tryz.prog w 0 (fun _=>true) held m 25 [c3]=some y2:=by simpa [Value.cells,O1.cells25] using h2
 obtain ⟨z0,z1,m2,hx2,_,g0,g1⟩:=trod_struct2 Tryz.underlying24 h0'
 have g0':DataW.trod enc Tryz.prog w 0 (fun _=>true) held m2 3 [c0]=some z0:=by simpa [O1.cells3] using g0
 have g1':DataW.trod enc Tryz.prog w 0 (fun _=>true) held m2 22 [c1]=some z1:=by simpa [O1.cells22] using g1
 simp only[Prod.mk.injEq] at hx
 obtain ⟨rfl,rfl⟩:=hx
 have hwz:∀n,(n∈z1.1.weights Tryz.prog 22∨n∈y2.1.weights Tryz.prog 25)→n≤reachBytes:=by
  intro n hn
  refine hz n ?_
  simp only[DataW.weights,Tryz.underlying27,List.map_cons,List.map_nil,DataW.weightsEach,List.mem_append]
  rcases hn with hn|hn
  ·refine .inl ?_
   rw[hx2]
   simp only[DataW.weights,Tryz.underlying24,List.map_cons,List.map_nil,DataW.weightsEach,List.mem_append]
   exact .inr (.inl hn)
  ·exact .inr (.inr (.inl hn))
 obtain ⟨cells,e0,_,_⟩:=DataW.trod_int Tryz.underlying3 g0'
 obtain ⟨sum,e2,_,_⟩:=DataW.trod_int Tryz.underlying3 h1'
 obtain ⟨a,n,c,ls,rfl,hc,hr⟩:=O1.rows g1' (fun n hn=>hwz n (.inl hn))
 obtain ⟨a',n',c',g,rfl,hc',hg⟩:=O1.ints h2' (fun n hn=>hwz n (.inr hn))
 simp only[List.cons.injEq,and_true] at e0 e2
 exact ⟨cells,sum,a,n,c,ls,a',n',c',g,by rw[e0,e2],hc,hc',hr,hg⟩
end
end
section
open Go Go.RowKit
attribute [local go_sem] over_cell
attribute [local go_sem] Oper.semAt_some
def fillG (g P:List Int):List Int:=((openL g).zip P).foldl (fun f cx=>f.set cx.1.toNat cx.2) g
theorem fillP_G (C:Cst) (P:List Int):fillP C P=fillG C.g P:=rfl
theorem fillG_len (g P:List Int):(fillG g P).length=g.length:=foldl_set_len _ _
theorem fillG_snoc (g P:List Int) (x:Int) (h:P.length<(openL g).length):fillG g (P++[x])=(fillG g P).set ((openL g)[P.length]?.getD 0).toNat x:=by
 have:=fillP_snoc (plC [] 0 g) P x h
 rw[fillP_G,fillP_G] at this
 rw[List.getElem?_eq_getElem h]
 exact this
theorem open_lt {g:List Int} {k:Nat} (h:k<(openL g).length):∃x:Nat,(openL g)[k]?.getD 0=(x:Int)∧x<g.length∧g[x]?.getD 0=0:=by
 have hm:=mem_open.1 (List.getElem_mem h)
 rw[List.getElem?_eq_getElem h]
 exact ⟨((openL g)[k]).toNat,by simp only[Option.getD_some];omega,by omega,hm.2.2⟩
end
section
open Go Go.RowKit
attribute [local go_sem] over_cell
attribute [local go_sem] Oper.semAt_some
theorem upb_snoc {f:Nat→Bool} {k:Nat} (h:∀j,j<k→f j=false) (hk:f k=false):∀j,j<k+1→f j=false:=by
 intro j hj
 by_cases e:j=k
 ·rw[e];exact hk
 ·exact h j (by omega)
end
section
open Go Go.RowKit
def OkG (g P:List Int):Prop:=OkP (plC [] 0 g) P
theorem OkG.len {g P:List Int} (h:OkG g P):P.length≤(openL g).length:=OkP.len h
def gC (cells:Int) (ls:List (List Int)) (sum:Int) (g:List Int):Cst:=⟨cells,none,0,0,ls,sum,none,g.length,0,g,none,0,0,0⟩
theorem gC_fine {cells:Int} {ls:List (List Int)} {sum:Int} {g:List Int} (G:GoodTask cells ls sum g):Fine (gC cells ls sum g):=GoodTask.fine (C:=gC cells ls sum g) G rfl
theorem gC_even {cells:Int} {ls:List (List Int)} {sum:Int} {g:List Int} (G:GoodTask cells ls sum g):Even (gC cells ls sum g):=G.even
end
section
open Go Go.RowKit
structure SolP (C:Cst) (S:List Int):Prop where
 ok:OkP C S
 len:S.length=C.O.length
 right:∀k,k≤C.O.length→wrongB C (S.take k)=false
def PLt (P S:List Int):Prop:=∃Q x y R R',P=Q++x :: R∧S=Q++y :: R'∧x<y
theorem aboveM_lo {M x j:Nat} (h1:x<j) (h2:j≤256) (h3:M.testBit (j - 1)=true):0<aboveM M x∧aboveM M x≤j:=by
 unfold aboveM
 cases e:(List.range 257).find? (fun j=>decide (x<j)&&M.testBit (j - 1)) with
 | none =>
  rw[List.find?_eq_none] at e
  have:=e j (List.mem_range.2 (by omega))
  simp[h1,h3] at this
 | some i =>
  rw[List.find?_range_eq_some] at e
  obtain ⟨e1,_,e3⟩:=e
  simp only[Bool.and_eq_true,decide_eq_true_eq] at e1
  show 0<i∧i≤j
  refine ⟨by omega,Nat.le_of_not_lt fun hlt=>?_⟩
  have:=e3 j hlt
  simp[h1,h3] at this
theorem above_le {C:Cst} {Q:List Int} {x:Nat} {y:Int} (hf:Fine C) (hy:y∈unusedL C.g) (hq:y ∉ Q) (hxy:(x:Int)<y):0<aboveM (maskL (leftL C Q)) x∧((aboveM (maskL (leftL C Q)) x:Nat):Int)≤y:=by
 have h1:=mem_unused.1 hy
 have h2:=hf.len
 have h3:=hf.most
 have:=aboveM_lo (M:=maskL (leftL C Q)) (x:=x) (j:=y.toNat) (by omega) (by omega) (by
  rw[testBit_maskL,hasB_left,show ((y.toNat - 1:Nat):Int)+1=y from by omega,hasB_iff.2 hy]
  simp only[Bool.true_and,Bool.not_eq_true']
  rw[Bool.eq_false_iff]
  exact fun e=>hq (hasB_iff.1 e))
 exact ⟨this.1,by omega⟩
theorem back_reach {C:Cst} {S Q S':List Int} {x y:Int} (hf:Fine C) (hS:S=Q++y :: S') (hx:0≤x) (hxy:x<y) (hy:y∈unusedL C.g) (hq:y ∉ Q):∀U:List Int,∃P',backP C (U++x :: Q.reverse)=some P'∧(P' <+: S∨PLt P' S)
 | []=>by
  have ha:=above_le (Q:=Q) (x:=x.toNat) hf hy hq (by omega)
  refine ⟨Q++[((aboveM (maskL (leftL C Q)) x.toNat:Nat):Int)],?_,?_⟩
  ·show backP C (x :: Q.reverse)=_
   unfold backP
   rw[List.reverse_reverse,if_pos ha.1]
  ·rcases Int.lt_or_eq_of_le ha.2 with h|h
   ·exact .inr ⟨Q,_,y,[],S',rfl,hS,h⟩
   ·left
    rw[h,hS]
    exact ⟨S',by simp⟩
 | z :: U=>by
  rw[List.cons_append]
  unfold backP
  by_cases ha:0<aboveM (maskL (leftL C (U++x :: Q.reverse).reverse)) z.toNat
  ·rw[if_pos ha]
   refine ⟨_,rfl,.inr ⟨Q,x,y,U.reverse++[((aboveM (maskL (leftL C (U++x :: Q.reverse).reverse)) z.toNat:Nat):Int)],S',?_,hS,hxy⟩⟩
   generalize ((aboveM (maskL (leftL C (U++x :: Q.reverse).reverse)) z.toNat:Nat):Int)=v
   rw[List.reverse_append,List.reverse_cons,List.reverse_reverse]
   simp
  ·rw[if_neg ha]
   exact back_reach hf hS hx hxy hy hq U
theorem next_reach {C:Cst} {P S:List Int} (hf:Fine C) (ho:OkP C P) (hS:SolP C S) (h:(P <+: S∧P≠S)∨PLt P S):∃P',nextP C P=some P'∧(P' <+: S∨PLt P' S):=by
 unfold nextP
 rcases h with ⟨⟨T,hT⟩,hne⟩|⟨Q,x,y,R,R',hP,hSe,hxy⟩
 ·cases T with
  | nil=>exact absurd (by simpa using hT) hne
  | cons y S' =>
   have hl:P.length<C.O.length:=by rw[← hS.len,← hT];simp
   have hw:wrongB C P=false:=by
    have:=hS.right P.length (by omega)
    rwa [← hT,List.take_left] at this
   rw[if_pos ⟨by rw[beq_eq_false_iff_ne];omega,hw⟩]
   have hy:y∈unusedL C.g:=hS.ok.num y (by rw[← hT];simp)
   have hq:y ∉ P:=by
    have hn:=hS.ok.nodup
    rw[← hT,List.nodup_append] at hn
    exact fun hm=>hn.2.2 y hm y (by simp) rfl
   have hy1:=mem_unused.1 hy
   have ha:=above_le (Q:=P) (x:=0) hf hy hq (by omega)
   refine ⟨_,rfl,?_⟩
   rcases Int.lt_or_eq_of_le ha.2 with h|h
   ·exact .inr ⟨P,_,y,[],S',rfl,hT.symm,h⟩
   ·left
    rw[h,← hT]
    exact ⟨S',by simp⟩
 ·have hy:y∈unusedL C.g:=hS.ok.num y (by rw[hSe];simp)
  have hq:y ∉ Q:=by
   have hn:=hS.ok.nodup
   rw[hSe,List.nodup_append] at hn
   exact fun hm=>hn.2.2 y hm y (by simp) rfl
  have hx:=mem_unused.1 (ho.num x (by rw[hP];simp))
  split
  ·refine ⟨_,rfl,.inr ⟨Q,x,y,R++[((aboveM (maskL (leftL C P)) 0:Nat):Int)],R',?_,hSe,hxy⟩⟩
   generalize ((aboveM (maskL (leftL C P)) 0:Nat):Int)=v
   rw[hP];simp
  ·have:=back_reach hf hSe (by omega) hxy hy hq R.reverse
   rw[hP,List.reverse_append,List.reverse_cons]
   simpa using this
theorem found_mem {C:Cst} {S:List Int} (he:Even C) (hf:Fine C) (hS:SolP C S):∀(n:Nat) (P:List Int),fuelP C P=n→OkP C P→((P <+: S∧P≠S)∨PLt P S)→fillP C S∈found C P:=by
 intro n
 induction n using Nat.strongRecOn with
 | _ n ih =>
  intro P hn ho h
  obtain ⟨P',hP',hr⟩:=next_reach hf ho hS h
  rw[found_step he hf ho,hP']
  have hlt:=fuelP_lt he hf ho hP'
  have hok:=nextP_ok he hf ho hP'
  simp only
  by_cases e:P'=S
  ·subst e
   have hw:=hS.right C.O.length (Nat.le_refl _)
   rw[List.take_of_length_le (by rw[hS.len];omega)] at hw
   rw[if_pos ⟨by rw[hS.len];simp,hw⟩]
   simp
  ·refine List.mem_append_right _ (ih (fuelP C P') (by omega) P' rfl hok ?_)
   rcases hr with hr|hr
   ·exact .inl ⟨hr,e⟩
   ·exact .inr hr
def Rch (C:Cst) (P:List Int):Prop:=∀k,k<P.length→wrongB C (P.take k)=false
theorem backP_shape {C:Cst}:∀(R P':List Int),backP C R=some P'→∃Q a U z,P'=Q++[a]∧R=U++z :: Q.reverse
 | [],P',h=>by simp[backP] at h
 | x :: R,P',h=>by
  unfold backP at h
  split at h
  ·cases h
   exact ⟨_,_,[],x,rfl,by simp⟩
  ·obtain ⟨Q,a,U,z,h1,h2⟩:=backP_shape R P' h
   exact ⟨Q,a,x :: U,z,h1,by rw[h2];rfl⟩
theorem rch_next {C:Cst} {P P':List Int} (h:Rch C P) (hn:nextP C P=some P'):Rch C P':=by
 unfold nextP at hn
 split at hn
 ·rename_i hc
  cases hn
  intro k hk
  rw[List.length_append,List.length_singleton] at hk
  rcases Nat.lt_or_ge k P.length with h1|h1
  ·rw[List.take_append_of_le_length (by omega)];exact h k h1
  ·rw[show k=P.length from by omega,List.take_left];exact hc.2
 ·obtain ⟨Q,a,U,z,h1,h2⟩:=backP_shape _ _ hn
  have h3:P=Q++z :: U.reverse:=by
   have:=congrArg List.reverse h2
   rw[List.reverse_reverse] at this
   rw[this];simp
  subst h1
  intro k hk
  rw[List.length_append,List.length_singleton] at hk
  rw[List.take_append_of_le_length (by omega)]
  have:=h k (by rw[h3];simp;omega)
  rwa [h3,List.take_append_of_le_length (by omega)] at this
theorem found_sound {C:Cst} (he:Even C) (hf:Fine C):∀(n:Nat) (P:List Int),fuelP C P=n→OkP C P→Rch C P→∀f,f∈found C P→∃S,SolP C S∧f=fillP C S∧val C.O.length P<val C.O.length S:=by
 intro n
 induction n using Nat.strongRecOn with
 | _ n ih =>
  intro P hn ho hr f hm
  rw[found_step he hf ho] at hm
  cases hP:nextP C P with
  | none=>rw[hP] at hm;cases hm
  | some P' =>
   rw[hP] at hm
   simp only at hm
   have hlt:=fuelP_lt he hf ho hP
   have hok:=nextP_ok he hf ho hP
   have hv:=nextP_val he hf ho hP
   have hr':=rch_next hr hP
   rcases List.mem_append.1 hm with hm|hm
   ·split at hm
    ·rename_i hc
     rw[List.mem_singleton.1 hm]
     have hl:P'.length=C.O.length:=by simpa using hc.1
     refine ⟨P',⟨hok,hl,fun k hk=>?_⟩,rfl,hv⟩
     rcases Nat.lt_or_ge k P'.length with h1|h1
     ·exact hr' k h1
     ·rw[List.take_of_length_le h1];exact hc.2
    ·cases hm
   ·obtain ⟨S,h1,h2,h3⟩:=ih (fuelP C P') (by omega) P' rfl hok hr' f hm
    exact ⟨S,h1,h2,by omega⟩
end
section
open Go Go.RowKit
theorem lastN_le (O l:List Int) (m:Nat):∀n,(List.range n).foldl (fun m i=>if hasB l (O[i]?.getD 0)=true then i+1 else m) 0≤m↔∀i,i<n→hasB l (O[i]?.getD 0)=true→i+1≤m
 | 0=>by simp
 | n+1=>by
  rw[List.range_succ,List.foldl_append]
  simp only[List.foldl_cons,List.foldl_nil]
  by_cases h:hasB l (O[n]?.getD 0)=true
  ·rw[if_pos h]
   constructor
   ·intro h1 i hi _;omega
   ·intro h1;exact h1 n (by omega) h
  ·rw[if_neg h,lastN_le O l m n]
   constructor
   ·intro h1 i hi h2
    by_cases e:i=n
    ·subst e;exact absurd h2 h
    ·exact h1 i (by omega) h2
   ·intro h1 i hi h2;exact h1 i (by omega) h2
theorem fillG_openT (g P:List Int) (hP:P.length≤(openL g).length):∀n,n≤P.length→∀i,i<(openL g).length→(fillG g (P.take n))[((openL g)[i]?.getD 0).toNat]?.getD 0=(P.take n)[i]?.getD 0
 | 0,_,i,hi=>by
  obtain ⟨x,h1,_,h3⟩:=open_lt hi
  rw[List.take_zero]
  have e:fillG g []=g:=by unfold fillG;rw[List.zip_nil_right];rfl
  rw[e,h1,Int.toNat_natCast,h3];rfl
 | n+1,hn,i,hi=>by
  have ih:=fillG_openT g P hP n (by omega) i hi
  have hl:(P.take n).length=n:=by rw[List.length_take];omega
  rw[take_snoc P 0 n (by omega),fillG_snoc g _ _ (by rw[hl];omega),hl]
  obtain ⟨x,h1,h2,_⟩:=open_lt (g:=g) (k:=n) (by omega)
  obtain ⟨y,k1,_,_⟩:=open_lt hi
  rw[h1,Int.toNat_natCast]
  by_cases e:i=n
  ·subst e
   rw[h1,Int.toNat_natCast,List.getElem?_set_self (by rw[fillG_len];exact h2),List.getElem?_append_right (by omega),hl]
   simp
  ·have hne:x≠y:=by
    intro e2
    have hn':n<(openL g).length:=by omega
    rw[List.getElem?_eq_getElem hi] at k1
    rw[List.getElem?_eq_getElem hn'] at h1
    simp only[Option.getD_some] at k1 h1
    have h5:(openL g)[i]=(openL g)[n]:=by rw[k1,h1,e2]
    exact e ((List.getElem_inj (open_nodup g)).1 h5)
   rw[k1,Int.toNat_natCast,List.getElem?_set_ne hne]
   rw[k1,Int.toNat_natCast] at ih
   rw[ih]
   rcases Nat.lt_or_ge i n with h6|h6
   ·rw[List.getElem?_append_left (by omega)]
   ·rw[List.getElem?_eq_none (by omega),List.getElem?_eq_none (by simp;omega)]
theorem fillG_open (g P:List Int) (hP:P.length≤(openL g).length) (i:Nat) (hi:i<(openL g).length):(fillG g P)[((openL g)[i]?.getD 0).toNat]?.getD 0=P[i]?.getD 0:=by
 have:=fillG_openT g P hP P.length (Nat.le_refl _) i hi
 rwa [List.take_length] at this
theorem zip_fst {α β:Type} {x:α × β}:∀{O:List α} {P:List β},x∈O.zip P→x.1∈O
 | [],_,h=>by simp at h
 | _ :: _,[],h=>by simp at h
 | o :: O,p :: P,h=>by
  rw[List.zip_cons_cons,List.mem_cons] at h
  rcases h with h|h
  ·rw[h];exact List.mem_cons_self
  ·exact List.mem_cons_of_mem _ (zip_fst h)
theorem fillG_given (g P:List Int) (c:Nat) (h:g[c]?.getD 0≠0):(fillG g P)[c]?.getD 0=g[c]?.getD 0:=by
 unfold fillG
 rw[foldl_set_other]
 intro x hx e
 have h1:=mem_open.1 (zip_fst hx)
 rw[e] at h1
 exact h h1.2.2
theorem sum_prefix {cells:Int} {ls:List (List Int)} {sum:Int} {g:List Int} (G:GoodTask cells ls sum g) {P:List Int} (ho:OkG g P) {l:List Int} (hl:l∈ls) {k:Nat} (hk:lastO (openL g) l≤k) (hkp:k≤P.length):sumAt l (fillG g (P.take k))=sumAt l (fillG g P):=by
 unfold sumAt
 congr 1
 apply List.map_congr_left
 intro c hc
 have hr:=(G.lineLen hl).2 c hc
 have hgl:=G.len
 have hpl:=ho.len
 by_cases hg:g[c.toNat]?.getD 0=0
 ·have hm:c∈openL g:=mem_open.2 ⟨hr.1,by omega,hg⟩
  obtain ⟨i,hi,e⟩:=List.getElem_of_mem hm
  have e2:(openL g)[i]?.getD 0=c:=by rw[List.getElem?_eq_getElem hi];exact e
  have h1:=fillG_open g (P.take k) (by rw[List.length_take];omega) i hi
  have h2:=fillG_open g P hpl i hi
  rw[e2] at h1 h2
  have h3:i+1≤k:=by
   unfold lastO at hk
   exact (lastN_le _ _ _ _).1 hk i hi (by rw[e2];exact hasB_iff.2 hc)
  rw[h1,h2,List.getElem?_take,if_pos (by omega)]
 ·rw[fillG_given g _ _ hg,fillG_given g _ _ hg]
end
section
open Go Go.RowKit
attribute [local go_sem] over_cell
attribute [local go_sem] Oper.semAt_some
theorem IC.other {w:World} {b o n b' i:Nat} {xs:List Int} (h:IC w (some ⟨b,o,none⟩) n xs) (hb:b≠b') (v:Value):IC (w.setCell ⟨b',i,none⟩ v) (some ⟨b,o,none⟩) n xs :=
 ⟨h.1,fun k hk=>by
  obtain ⟨b2,off,e,hlt,hc⟩:=h.2 k hk
  cases e
  exact ⟨b,o,rfl,by simpa using hlt,(World.cell?_of_block (Below.heap_setCell _ _ _ _ hb)).trans hc⟩⟩
end
section
open Go Go.RowKit
section
variable {P:Program} {ops:Array Oper} {Q:Exit→Act→World→Prop} {md:Region.Mode} {S:World→Prop}
theorem loud_step (hs:Region.noSelect ops=true) (lt:List Nat) (hQ:∀c a d v w,Q (.panic c) (Act.put a d v) w→Q (.panic c) a w) {i:Nat} {t:List (Nat × Nat)} {listed:Array Bool} {a:Act} {w:World}
  (hcl:Closed md ops listed) (hS:S w) (hr:i∈Region.ready md ops listed) (hc:seqOk md ops lt t (listed.setIfInBounds i true)=true) (h:wpS P ops S Q (pickOps ops.toList ((1,i) :: t)) a w) :
  wpOp P ops Q i (fun a' w'=>(lt.contains i=false→S w')∧wpL P md ops Q S (fun i=>lt.contains i) t.length (listed.setIfInBounds i true) a' w') a w:=by
 obtain ⟨oi,hoi⟩:∃oi,ops[i]?=some oi:=by
  obtain ⟨_,oi,h1,_⟩:=(mem_ready (md:=md) (ops:=ops) (listed:=listed) (j:=i)).1 hr
  exact ⟨oi,h1⟩
 have hp:nthOp ops.toList i=some oi:=by rw[nthOp_eq];simpa using hoi
 simp only[pickOps,hp,wpS] at h
 refine wpOp_of_if hoi ?_
 split
 ·rename_i hw
  rw[if_pos hw] at h
  exact h.imp (Oper.wp_mono fun a' w' hk=>⟨fun _=>hk.1,wpL_of_S hs lt hQ t _ a' w' (hcl.set hr) (fun _=>hk.1) hc hk.2⟩) id
 ·rename_i hw
  rw[if_neg hw] at h
  exact ⟨fun _=>hS,wpL_of_S hs lt hQ t _ _ w (hcl.set hr) (fun _=>hS) hc h⟩
end
end
section
open Go Go.RowKit
structure SolF (ls:List (List Int)) (sum:Int) (g f:List Int):Prop where
 len:f.length=g.length
 num:∀i,i<f.length→1≤f[i]?.getD 0∧f[i]?.getD 0≤(g.length:Int)
 inj:∀i j,i<f.length→j<f.length→f[i]?.getD 0=f[j]?.getD 0→i=j
 ext:∀i,i<g.length→g[i]?.getD 0≠0→f[i]?.getD 0=g[i]?.getD 0
 line:∀l,l∈ls→sumAt l f=sum
theorem open_at {g:List Int} {i:Nat} (hi:i<g.length) (h0:g[i]?.getD 0=0):∃k,k<(openL g).length∧(openL g)[k]?.getD 0=(i:Int):=by
 have hm:(i:Int)∈openL g:=mem_open.2 ⟨by omega,by omega,by simpa using h0⟩
 obtain ⟨k,hk,e⟩:=List.getElem_of_mem hm
 exact ⟨k,hk,by rw[List.getElem?_eq_getElem hk];exact e⟩
theorem given_mem {g:List Int} {i:Nat} (hi:i<g.length):g[i]?.getD 0∈g:=by
 rw[List.getElem?_eq_getElem hi];exact List.getElem_mem hi
theorem solF_of {cells:Int} {ls:List (List Int)} {sum:Int} {g:List Int} (G:GoodTask cells ls sum g) {S:List Int} (h:SolP (gC cells ls sum g) S):SolF ls sum g (fillG g S):=by
 have ho:OkG g S:=⟨h.ok.1,h.ok.2,h.ok.3⟩
 have hl:S.length=(openL g).length:=h.len
 have hgl:=G.len
 have hval:∀i,i<g.length→(g[i]?.getD 0≠0∧(fillG g S)[i]?.getD 0=g[i]?.getD 0)∨(g[i]?.getD 0=0∧∃k,k<S.length∧(openL g)[k]?.getD 0=(i:Int)∧(fillG g S)[i]?.getD 0=S[k]?.getD 0∧S[k]?.getD 0∈S∧S[k]?.getD 0∈unusedL g):=by
  intro i hi
  by_cases h0:g[i]?.getD 0=0
  ·obtain ⟨k,hk,e⟩:=open_at hi h0
   have h2:=fillG_open g S (by omega) k hk
   rw[e,Int.toNat_natCast] at h2
   have hm:=given_mem (g:=S) (i:=k) (by omega)
   exact .inr ⟨h0,k,by omega,e,h2,hm,ho.2 _ hm⟩
  ·exact .inl ⟨h0,fillG_given g S i h0⟩
 refine ⟨fillG_len g S,fun i hi=>?_,fun i j hi hj e=>?_,fun i _ h0=>fillG_given g S i h0,fun l hml=>?_⟩
 ·rw[fillG_len] at hi
  rcases hval i hi with ⟨h0,e⟩|⟨_,k,_,_,e,_,hu⟩
  ·rw[e];have:=G.num i hi;omega
  ·rw[e];have:=mem_unused.1 hu;omega
 ·rw[fillG_len] at hi hj
  rcases hval i hi with ⟨h0,e1⟩|⟨h0,k,hk,ho1,e1,_,hu⟩
  ·rcases hval j hj with ⟨h0',e2⟩|⟨_,k',_,_,e2,_,hu'⟩
   ·rw[e1,e2] at e
    have hi1:=G.num i hi
    have hj1:=G.num j hj
    rcases Nat.lt_trichotomy i j with h3|h3|h3
    ·exact absurd e (G.apart i j h3 hj (by omega))
    ·exact h3
    ·exact absurd e.symm (G.apart j i h3 hi (by omega))
   ·rw[e1,e2] at e
    have:=(mem_unused.1 hu').2.2
    rw[← e] at this
    exact absurd (hasB_iff.2 (given_mem hi)) (by rw[this];decide)
  ·rcases hval j hj with ⟨h0',e2⟩|⟨_,k',hk',ho2,e2,_,_⟩
   ·rw[e1,e2] at e
    have:=(mem_unused.1 hu).2.2
    rw[e] at this
    exact absurd (hasB_iff.2 (given_mem hj)) (by rw[this];decide)
   ·rw[e1,e2,List.getElem?_eq_getElem hk,List.getElem?_eq_getElem hk'] at e
    have h5:=(List.getElem_inj ho.3).1 (by simpa using e)
    subst h5
    rw[ho1] at ho2
    omega
 ·have hk:lastO (openL g) l≤S.length:=by
   unfold lastO
   rw[lastN_le]
   intro i hi _
   omega
  have h2:=h.right (lastO (openL g) l) (by show _≤(openL g).length;omega)
  unfold wrongB Cst.tbl at h2
  rw[List.any_eq_false] at h2
  have h3:=h2 l (List.mem_filter.2 ⟨hml,by
   rw[List.length_take,Nat.min_eq_left hk]
   exact beq_self_eq_true _⟩)
  have h4:sumAt l (fillG g (S.take (lastO (openL g) l)))=sum:=by
   have h5:sumAt l (fillP (gC cells ls sum g) (S.take (lastO (openL g) l)))=(gC cells ls sum g).sum:=by simpa using h3
   exact h5
  rw[← sum_prefix G ho hml (Nat.le_refl _) hk]
  exact h4
def pathF (g f:List Int):List Int:=(openL g).map fun c=>f[c.toNat]?.getD 0
theorem pathF_at {g f:List Int} {k:Nat} (hk:k<(openL g).length):(pathF g f)[k]?.getD 0=f[((openL g)[k]?.getD 0).toNat]?.getD 0:=by
 unfold pathF
 rw[List.getElem?_map,List.getElem?_eq_getElem hk]
 rfl
theorem solF_path {cells:Int} {ls:List (List Int)} {sum:Int} {g:List Int} (G:GoodTask cells ls sum g) {f:List Int} (h:SolF ls sum g f):SolP (gC cells ls sum g) (pathF g f)∧fillG g (pathF g f)=f:=by
 have hl:(pathF g f).length=(openL g).length:=by unfold pathF;rw[List.length_map]
 have hfl:=h.len
 have hu:∀k,k<(openL g).length→(pathF g f)[k]?.getD 0∈unusedL g:=by
  intro k hk
  obtain ⟨x,hx,hxl,hx0⟩:=open_lt hk
  rw[pathF_at hk,hx,Int.toNat_natCast]
  have hn:=h.num x (by omega)
  refine mem_unused.2 ⟨by omega,by omega,?_⟩
  rw[Bool.eq_false_iff]
  intro hb
  obtain ⟨i,hi,e⟩:=List.getElem_of_mem (hasB_iff.1 hb)
  have e2:g[i]?.getD 0=f[x]?.getD 0:=by rw[List.getElem?_eq_getElem hi];exact e
  have h3:=h.ext i hi (by rw[e2];omega)
  have h4:=h.inj i x (by omega) (by omega) (h3.trans e2)
  subst h4
  rw[hx0] at e2
  omega
 have ho:OkG g (pathF g f):=by
  refine ⟨by show (pathF g f).length≤(openL g).length;omega,fun x hx=>?_,?_⟩
  ·obtain ⟨k,hk,e⟩:=List.getElem_of_mem hx
   have:=hu k (by omega)
   rw[List.getElem?_eq_getElem hk,Option.getD_some,e] at this
   exact this
  ·unfold List.Nodup
   rw[List.pairwise_iff_getElem]
   intro i j hi hj hij e
   obtain ⟨x,hx,hxl,_⟩:=open_lt (g:=g) (k:=i) (by omega)
   obtain ⟨y,hy,hyl,_⟩:=open_lt (g:=g) (k:=j) (by omega)
   have e1:=pathF_at (g:=g) (f:=f) (k:=i) (by omega)
   have e2:=pathF_at (g:=g) (f:=f) (k:=j) (by omega)
   rw[hx,Int.toNat_natCast,List.getElem?_eq_getElem hi,Option.getD_some] at e1
   rw[hy,Int.toNat_natCast,List.getElem?_eq_getElem hj,Option.getD_some] at e2
   have h3:=h.inj x y (by omega) (by omega) (by rw[← e1,← e2,e])
   subst h3
   have hi2:i<(openL g).length:=by omega
   have hj2:j<(openL g).length:=by omega
   rw[List.getElem?_eq_getElem hi2] at hx
   rw[List.getElem?_eq_getElem hj2] at hy
   have h5:(openL g)[i]=(openL g)[j]:=by simpa using hx.trans hy.symm
   have:=(List.getElem_inj (open_nodup g)).1 h5
   omega
 have hfill:fillG g (pathF g f)=f:=by
  apply List.ext_getElem
  ·rw[fillG_len,hfl]
  ·intro i h1 h2
   have hi:i<g.length:=by omega
   have key:(fillG g (pathF g f))[i]?.getD 0=f[i]?.getD 0:=by
    by_cases h0:g[i]?.getD 0=0
    ·obtain ⟨k,hk,e⟩:=open_at hi h0
     have h3:=fillG_open g (pathF g f) (by omega) k hk
     rw[pathF_at hk,e,Int.toNat_natCast] at h3
     exact h3
    ·rw[fillG_given g _ i h0,h.ext i hi h0]
   rw[List.getElem?_eq_getElem h1,List.getElem?_eq_getElem h2] at key
   simpa using key
 refine ⟨⟨⟨ho.1,ho.2,ho.3⟩,hl,fun k hk=>?_⟩,hfill⟩
 have hk':k≤(openL g).length:=hk
 unfold wrongB Cst.tbl
 rw[List.any_eq_false]
 intro l hm
 obtain ⟨hml,he⟩:=List.mem_filter.1 hm
 rw[List.length_take,Nat.min_eq_left (by omega)] at he
 have he2:lastO (openL g) l=k:=by
  have he3:lastO (gC cells ls sum g).O l=k:=by simpa using he
  exact he3
 have h3:=sum_prefix G ho hml (Nat.le_of_eq he2) (by omega)
 show ¬((sumAt l (fillG g ((pathF g f).take k)) != sum)=true)
 rw[h3,hfill,h.line l hml]
 simp
theorem mem_sols {cells:Int} {ls:List (List Int)} {sum:Int} {g:List Int} (G:GoodTask cells ls sum g) {f:List Int}:f∈solsL ls sum g []↔SolF ls sum g f:=by
 have e:solsL ls sum g []=sols (gC cells ls sum g) []:=(sols_pl (gC cells ls sum g) []).symm
 have hO:(gC cells ls sum g).O.length=(openL g).length:=rfl
 have hok0:OkP (gC cells ls sum g) []:=⟨by simp,fun x hx=>(by cases hx),List.nodup_nil⟩
 rw[e]
 unfold sols
 by_cases h0:(gC cells ls sum g).O.length=0
 ·rw[if_pos h0]
  by_cases hw:wrongB (gC cells ls sum g) []=true
  ·rw[if_pos hw]
   constructor
   ·intro h;cases h
   ·intro h
    obtain ⟨h1,_⟩:=solF_path G h
    have h2:=h1.right 0 (Nat.zero_le _)
    rw[List.take_zero,hw] at h2
    cases h2
  ·rw[if_neg hw]
   have hw':wrongB (gC cells ls sum g) []=false:=by simpa using hw
   constructor
   ·intro h
    rw[List.mem_singleton.1 h]
    refine solF_of G ⟨hok0,by rw[h0];rfl,fun k hk=>?_⟩
    rw[List.take_nil];exact hw'
   ·intro h
    obtain ⟨h1,h2⟩:=solF_path G h
    have h3:pathF g f=[]:=List.eq_nil_of_length_eq_zero (by rw[h1.len];exact h0)
    rw[h3] at h2
    rw[List.mem_singleton]
    exact h2.symm
 ·rw[if_neg h0]
  constructor
  ·intro h
   obtain ⟨S,h1,h2,_⟩:=found_sound (gC_even G) (gC_fine G) _ [] rfl hok0 (fun k hk=>absurd hk (Nat.not_lt_zero _)) f h
   rw[h2]
   exact solF_of G h1
  ·intro h
   obtain ⟨h1,h2⟩:=solF_path G h
   have h3:=found_mem (gC_even G) (gC_fine G) h1 _ [] rfl hok0 (.inl ⟨List.nil_prefix,fun e2=>by have:=h1.len;rw[← e2] at this;exact h0 this.symm⟩)
   rw[fillP_G] at h3
   have e3:(gC cells ls sum g).g=g:=rfl
   rw[e3,h2] at h3
   exact h3
end
section
open Go Go.RowKit
end
section
def Lx (f g:List Int):Prop:=∃k:Nat,(∀j:Nat,j<k→f[j]?.getD 0=g[j]?.getD 0)∧f[k]?.getD 0<g[k]?.getD 0
theorem Lx.irr (f:List Int):¬Lx f f:=fun ⟨_,_,h⟩=>by omega
end
section
open Go Go.RowKit
theorem val_lx:∀(m:Nat) (P S:List Int),P.length=m→S.length=m→(∀z,z∈P→0≤z∧z≤256)→(∀z,z∈S→0≤z∧z≤256)→val m P<val m S→Lx P S
 | 0,_,_,_,_,_,_,h=>by simp[val] at h
 | m+1,[],_,h1,_,_,_,_=>by simp at h1
 | m+1,_ :: _,[],_,h2,_,_,_=>by simp at h2
 | m+1,x :: P,y :: S,h1,h2,hP,hS,h=>by
  simp only[val] at h
  have a1:=val_lt m P (fun z hz=>(hP z (List.mem_cons_of_mem _ hz)).2)
  have a2:=val_lt m S (fun z hz=>(hS z (List.mem_cons_of_mem _ hz)).2)
  have hx:=hP x List.mem_cons_self
  have hy:=hS y List.mem_cons_self
  rcases Int.lt_trichotomy x y with e|e|e
  ·exact ⟨0,fun j hj=>by omega,by simpa using e⟩
  ·subst e
   obtain ⟨k,k1,k2⟩:=val_lx m P S (by simpa using h1) (by simpa using h2) (fun z hz=>hP z (List.mem_cons_of_mem _ hz)) (fun z hz=>hS z (List.mem_cons_of_mem _ hz)) (by omega)
   refine ⟨k+1,fun j hj=>?_,by simpa using k2⟩
   cases j with
   | zero=>rfl
   | succ j=>simpa using k1 j (by omega)
  ·have:(y.toNat+1)*257 ^ m≤x.toNat*257 ^ m:=Nat.mul_le_mul_right _ (by omega)
   rw[Nat.add_mul] at this
   omega
theorem open_sorted (g:List Int):(openL g).Pairwise (·<·):=by
 unfold openL openTo
 refine List.Pairwise.map _ (fun a b h=>?_) (List.Pairwise.filter _ List.pairwise_lt_range)
 omega
theorem open_lt2 {C:Cst} {i j:Nat} (hi:i<j) (hj:j<C.O.length):(C.O[i]'(by omega)).toNat<(C.O[j]).toNat:=by
 have h1:=List.pairwise_iff_getElem.1 (open_sorted C.g) i j (by show i<C.O.length;omega) hj hi
 have h2:=mem_open.1 (show C.O[i]'(by omega)∈openL C.g from List.getElem_mem (by show i<C.O.length;omega))
 have h3:=mem_open.1 (show C.O[j]∈openL C.g from List.getElem_mem hj)
 show (C.O[i]'(by omega)).toNat<_
 have:C.O[i]'(by omega)<C.O[j]:=h1
 omega
theorem fillP_same {C:Cst} {P:List Int} {j:Nat} (h:∀(i:Nat) (hi:i<C.O.length),i<P.length→(C.O[i]).toNat≠j):(fillP C P)[j]?=C.g[j]?:=by
 unfold fillP
 refine foldl_set_other _ _ (fun x hx e=>?_) _
 have h1:=zip_fst_take hx
 obtain ⟨i,hi,e2⟩:=List.getElem_of_mem h1
 rw[List.length_take] at hi
 rw[List.getElem_take] at e2
 exact h i (by omega) (by omega) (by rw[e2];exact e)
theorem fillP_at {C:Cst} (S:List Int):∀(m:Nat) (_:m≤S.length) (hm2:m≤C.O.length) (k:Nat) (hk:k<m),(fillP C (S.take m))[(C.O[k]'(by omega)).toNat]?=some (S[k]?.getD 0)
 | 0,_,_,k,hk=>by omega
 | m+1,h1,h2,k,hk=>by
  have hl:(S.take m).length=m:=by rw[List.length_take];omega
  rw[take_snoc S 0 m (by omega),fillP_snoc _ _ _ (by rw[hl];omega)]
  have hm:=mem_open.1 (show C.O[m]'(by omega)∈openL C.g from List.getElem_mem (by show m<C.O.length;omega))
  rcases Nat.lt_or_ge k m with h3|h3
  ·have hne:=open_lt2 (C:=C) h3 (by omega)
   rw[List.getElem?_set_ne]
   ·exact fillP_at S m (by omega) (by omega) k h3
   ·simp only[hl];omega
  ·have:k=m:=by omega
   subst this
   simp only[hl]
   rw[List.getElem?_set_self]
   rw[fillP_len]
   omega
theorem fillP_full {C:Cst} {S:List Int} (h:S.length=C.O.length) (k:Nat) (hk:k<C.O.length):(fillP C S)[(C.O[k]).toNat]?=some (S[k]?.getD 0):=by
 have:=fillP_at (C:=C) S S.length (Nat.le_refl _) (by omega) k (by omega)
 rwa [List.take_length] at this
theorem lx_fill {C:Cst} {P S:List Int} (hP:P.length=C.O.length) (hS:S.length=C.O.length) (h:Lx P S):Lx (fillP C P) (fillP C S):=by
 obtain ⟨k,h1,h2⟩:=h
 have hk:k<C.O.length:=by
  refine Nat.lt_of_not_le fun hle=>?_
  rw[List.getElem?_eq_none (by omega),List.getElem?_eq_none (by omega)] at h2
  exact absurd h2 (by simp)
 refine ⟨(C.O[k]).toNat,fun j hj=>?_,?_⟩
 ·by_cases e:∃(i:Nat) (hi:i<C.O.length),(C.O[i]).toNat=j
  ·obtain ⟨i,hi,rfl⟩:=e
   have hik:i<k:=by
    refine Nat.lt_of_not_le fun hle=>?_
    rcases Nat.lt_or_ge k i with h3|h3
    ·have:=open_lt2 (C:=C) h3 hi;omega
    ·have:i=k:=by omega
     subst this;omega
   rw[fillP_full hP i hi,fillP_full hS i hi,Option.getD_some,Option.getD_some]
   exact h1 i hik
  ·rw[fillP_same (fun i hi _ e2=>e ⟨i,hi,e2⟩),fillP_same (fun i hi _ e2=>e ⟨i,hi,e2⟩)]
 ·rw[fillP_full hP k hk,fillP_full hS k hk,Option.getD_some,Option.getD_some]
  exact h2
theorem ok_num {C:Cst} {P:List Int} (hf:Fine C) (ho:OkP C P):∀z,z∈P→0≤z∧z≤256:=fun z hz=>by
 have:=mem_unused.1 (ho.num z hz)
 have:=hf.len
 have:=hf.most
 omega
theorem found_sorted {C:Cst} (he:Even C) (hf:Fine C):∀(n:Nat) (P:List Int),fuelP C P=n→OkP C P→Rch C P→(found C P).Pairwise Lx:=by
 intro n
 induction n using Nat.strongRecOn with
 | _ n ih =>
  intro P hn ho hr
  rw[found_step he hf ho]
  cases hP:nextP C P with
  | none=>exact List.Pairwise.nil
  | some P' =>
   simp only
   have hlt:=fuelP_lt he hf ho hP
   have hok:=nextP_ok he hf ho hP
   have hr':=rch_next hr hP
   have htail:=ih (fuelP C P') (by omega) P' rfl hok hr'
   split
   ·rename_i hc
    have hl:P'.length=C.O.length:=by simpa using hc.1
    refine List.pairwise_append.2 ⟨List.pairwise_singleton _ _,htail,fun a ha b hb=>?_⟩
    rw[List.mem_singleton.1 ha]
    obtain ⟨S,h1,h2,h3⟩:=found_sound he hf (fuelP C P') P' rfl hok hr' b hb
    rw[h2]
    exact lx_fill hl h1.len (val_lx C.O.length P' S hl h1.len (ok_num hf hok) (ok_num hf h1.ok) h3)
   ·exact htail
end
section
open Go Go.RowKit
attribute [local go_sem] over_cell
attribute [local go_sem] Oper.semAt_some
def numBad (f:List Int) (k:Nat):Int:=if f[k]?.getD 0 < -999999999∨999999999<f[k]?.getD 0 then 3 else 0
def numE (f:List Int):Int:=errs (numBad f) f.length
def fillE (cells:Int) (f:List Int):Int:=if (f.length:Int)≠cells then 2 else numE f
def normB (f:List Int):Bool:=(List.range f.length).all fun k=>hasB f ((k:Int)+1)
theorem norm_end {f:List Int} (h:∀k,k<f.length→hasB f ((k:Int)+1)=true):normB f=true:=by
 unfold normB
 rw[List.all_eq_true]
 exact fun k hk=>h k (List.mem_range.1 hk)
end
section
open Go Go.RowKit
attribute [local go_sem] over_cell
attribute [local go_sem] Oper.semAt_some
def extAt (g f:List Int) (i:Nat):Bool:=!(decide (0<g[i]?.getD 0)&&g[i]?.getD 0 != f[i]?.getD 0)
def solB (ls:List (List Int)) (sum:Int) (g f:List Int):Bool:=normB f&&((List.range f.length).all (extAt g f)&&ls.all fun l=>sumAt l f==sum)
theorem all_miss {p:Nat→Bool} {n k:Nat} (hk:k<n) (h:p k=false):(List.range n).all p=false:=by
 rw[List.all_eq_false]
 exact ⟨k,List.mem_range.2 hk,by rw[h];decide⟩
theorem all_end {p:Nat→Bool} {n:Nat} (h:∀k,k<n→p k=true):(List.range n).all p=true:=by
 rw[List.all_eq_true]
 exact fun k hk=>h k (List.mem_range.1 hk)
theorem upt_snoc {f:Nat→Bool} {k:Nat} (h:∀j,j<k→f j=true) (hk:f k=true):∀j,j<k+1→f j=true:=by
 intro j hj
 by_cases e:j=k
 ·rw[e];exact hk
 ·exact h j (by omega)
end
section
open Go Go.RowKit
theorem sols_sorted {cells:Int} {ls:List (List Int)} {sum:Int} {g:List Int} (G:GoodTask cells ls sum g):(solsL ls sum g []).Pairwise Lx:=by
 have e:solsL ls sum g []=sols (gC cells ls sum g) []:=(sols_pl (gC cells ls sum g) []).symm
 rw[e]
 unfold sols
 split
 ·split
  ·exact List.Pairwise.nil
  ·exact List.pairwise_singleton _ _
 ·exact found_sorted (gC_even G) (gC_fine G) _ [] rfl ⟨by simp,fun x hx=>(by cases hx),List.nodup_nil⟩ (fun k hk=>absurd hk (Nat.not_lt_zero _))
theorem solF_norm {ls:List (List Int)} {sum:Int} {g f:List Int} (h:SolF ls sum g f):normB f=true:=by
 refine norm_end (fun k hk=>?_)
 cases hb:hasB f ((k:Int)+1) with
 | true=>rfl
 | false =>
  exfalso
  have hl:=h.len
  have hn:f.Nodup:=by
   unfold List.Nodup
   rw[List.pairwise_iff_getElem]
   intro i j hi hj hij e
   have:=h.inj i j hi hj (by rw[List.getElem?_eq_getElem hi,List.getElem?_eq_getElem hj,e])
   omega
  have hs:∀x,x∈f→x∈((List.range f.length).map fun (i:Nat)=>(i:Int)+1).erase ((k:Int)+1):=by
   intro x hx
   obtain ⟨i,hi,e⟩:=List.getElem_of_mem hx
   have h1:=h.num i hi
   rw[List.getElem?_eq_getElem hi,Option.getD_some,e] at h1
   rw[List.mem_erase_of_ne]
   ·exact List.mem_map.2 ⟨(x - 1).toNat,List.mem_range.2 (by omega),by omega⟩
   ·intro e2
    have:=hasB_iff.2 hx
    rw[e2,hb] at this
    cases this
  have h2:=nodup_le hn hs
  rw[List.length_erase_of_mem (List.mem_map.2 ⟨k,List.mem_range.2 hk,rfl⟩),List.length_map,List.length_range] at h2
  omega
theorem solF_solB {cells:Int} {ls:List (List Int)} {sum:Int} {g f:List Int} (G:GoodTask cells ls sum g) (h:SolF ls sum g f):fillE cells f=0∧solB ls sum g f=true∧∀c:Nat,0≤f[c]?.getD 0∧f[c]?.getD 0≤1000000000:=by
 have hl:=h.len
 have hgl:=G.len
 have hc:=G.cells2
 have hv:∀c:Nat,0≤f[c]?.getD 0∧f[c]?.getD 0≤256:=fun c=>by
  rcases Nat.lt_or_ge c f.length with h1|h1
  ·have:=h.num c h1;omega
  ·rw[List.getElem?_eq_none h1];decide
 refine ⟨?_,?_,fun c=>by have:=hv c;omega⟩
 ·unfold fillE
  rw[if_neg (by omega)]
  unfold numE
  refine errs_none (fun j hj=>?_)
  unfold numBad
  have:=hv j
  rw[if_neg (by omega)]
 ·unfold solB
  rw[solF_norm h,Bool.true_and,Bool.and_eq_true]
  refine ⟨all_end (fun i hi=>?_),List.all_eq_true.2 (fun l hml=>?_)⟩
  ·unfold extAt
   by_cases h0:g[i]?.getD 0=0
   ·rw[h0];rfl
   ·rw[h.ext i (by omega) h0];simp
  ·rw[h.line l hml];simp
theorem few_good {cells:Int} {ls:List (List Int)} {sum:Int} {g:List Int} {cc op:Int} (h:few6B cc op cells sum ls g=true):GoodTask cells ls sum g∧((openL g).length:Int)≤op:=by
 unfold few6B at h
 simp only[Bool.and_eq_true,beq_iff_eq,decide_eq_true_eq] at h
 exact ⟨goodTask (by omega),by omega⟩
end
section
open Go Go.RowKit
theorem few_sys {cells:Int} {ls:List (List Int)} {sum:Int} {g:List Int} {cc op:Int} (h:few6B cc op cells sum ls g=true):sysErr cells ls=0:=by
 unfold few6B few2B at h
 simp only[Bool.and_eq_true,beq_iff_eq,decide_eq_true_eq] at h
 omega
theorem taskErr_good {cells:Int} {ls:List (List Int)} {sum:Int} {g:List Int} (G:GoodTask cells ls sum g) (hs:sysErr cells ls=0):taskErr cells ls sum g=0:=by
 have h1:=G.sum1
 have h2:=G.sum2
 have h3:=G.len
 unfold taskErr
 rw[if_neg (by rw[hs];decide),if_neg (by omega),if_neg (by omega)]
 refine errs_none (fun i hi=>?_)
 have h4:=G.num i hi
 unfold givenBad
 rw[if_neg (by omega),if_neg]
 rintro ⟨h5,h6⟩
 obtain ⟨j,hj,e⟩:=List.getElem_of_mem (hasB_iff.1 h6)
 rw[List.length_take] at hj
 rw[List.getElem_take] at e
 have h7:=G.apart j i (by omega) hi h5
 rw[List.getElem?_eq_getElem (by omega:j<g.length),Option.getD_some] at h7
 exact h7 e
end
section
open Go Go.RowKit
attribute [local go_sem] over_cell
attribute [local go_sem] Oper.semAt_some
theorem run_append_nothing {P:Program} (w:World) (t ty e:TypeId) (i:TypeInfo) (ht:P.underlying t=some (.slice e)) (hi:P.info? e=some i) (b:Option Addr) (n cap c:Nat) (h:n≤cap) :
  (Builtin.append_ #[t,t] ty #[.slice b n cap,.slice none 0 c]).run P w = .ok (.slice b n cap) w:=by
 cases b with
 | none=>simp[Builtin.append_,run_underlying ht,sizeOf,typeInfo,hi,Builtin.lenOf,Builtin.firstCells,h]
 | some a=>simp[Builtin.append_,run_underlying ht,sizeOf,typeInfo,hi,Builtin.lenOf,Builtin.firstCells,h,storeCells]
def SrcOk (w:World) (ad:Option Addr) (m:Nat) (news:List Value):Prop:=(∃p,ad=some p∧∀j u,news[j]?=some u→w.cell? (p.add j)=some u)∨(ad=none∧m=0)
theorem IC.src {w:World} {ad:Option Addr} {m:Nat} {xs:List Int} (h:IC w ad m xs):SrcOk w ad m (xs.map (Value.int .i64)):=by
 cases ad with
 | some p=>exact .inl ⟨p,rfl,h.cells⟩
 | none =>
  refine .inr ⟨rfl,?_⟩
  rcases Nat.eq_zero_or_pos m with e|e
  ·exact e
  ·obtain ⟨_,_,e2,_⟩:=h.2 0 e
   cases e2
theorem wpList_append_any {P:Program} (w:World) {ops:Array Oper} {rest:List Oper} {o:Oper} {a:Act} {Q:Exit→Act→World→Prop} (hgd:o.guard=none) (s x:Operand) (t:TypeId)
  (ho:o.op = .call { callee := .builtin .append,args:=#[s,x],argTypes:=#[t,t] })
  (B:Nat) (e:TypeId) (i:TypeInfo) (z:Value) (bytes:Nat) (ht:P.underlying t=some (.slice e)) (hi:P.info? e=some i) (hz:i.zero=some z)
  (hsize:i.size=1) (hby:i.bytes=bytes) (hzs:z.cells.size=1)
  (v:Value) (n:Nat) (xs:List Value) (hs:a.eval s=v) (hown:w.ownsRow B e 1 v n xs) (hB:B≤w.heap.size)
  (ad:Option Addr) (m c:Nat) (news:List Value) (hx:a.eval x = .slice ad m c) (hl:news.length=m) (hnews:SrcOk w ad m news) (h1:∀u∈news,u.oneCell'=true)
  (h63:n+m≤maxLen) (hbytes:(n+m)*bytes≤140737488355328)
  (h:∀v' w',w'.ownsRow B e 1 v' (n+m) (xs++news)→Stays (fun k=>v.ownBlock=some k) w w'→(∀k,v'.ownBlock=some k→v.ownBlock=some k∨w.heap.size≤k)→wpList P ops Q rest (a.put o.dst v') w'):wpList P ops Q (o :: rest) a w:=by
 rcases hnews with ⟨p,rfl,hn⟩|⟨rfl,rfl⟩
 ·refine wpList_append_own2 w hgd s x t ho e i z 1 bytes ht hi hz hsize hby hzs (by decide) v n xs hs (owns_base hown (Nat.zero_le _)) p m c news hx (by omega) hn h1 h63 hbytes ?_
  intro v' w' ho' hg hk
  refine h v' w' ?_ (Stays.grown hg (fun k e=>e)) hk
  refine ⟨ho'.1,ho'.2.imp id ?_⟩
  rintro ⟨g,cap,cur,rfl,_,r⟩
  refine ⟨g,cap,cur,rfl,?_,r⟩
  rcases hk g rfl with e|e
  ·exact (hown.lt g e).1
  ·omega
 ·have hn:news=[]:=List.eq_nil_of_length_eq_zero hl
  subst hn
  obtain ⟨b,cap,hv,hcap⟩:∃b cap,v = .slice b n cap∧n≤cap:=by
   rcases hown.2 with ⟨h2,h3⟩|⟨g,cap,cur,h2,_,_,h3,_⟩
   ·exact ⟨none,0,by rw[h2,h3],by omega⟩
   ·exact ⟨_,cap,h2,h3⟩
  refine wpList_plain hgd fun _ hK=>?_
  have hr:=run_append_nothing (P:=P) w t o.type e i ht hi b n cap c hcap
  unfold Oper.wp execOp
  simp only[ho,resolve,invoke,builtin,Sem.run_bind,Sem.run_pure,Result.andThen_ok,List.map_toArray,List.map_cons,List.map_nil,hs,hv,hx,hr]
  refine hK _ _ ?_
  rw[← hv]
  exact h v w (by simpa using hown) (Stays.refl _ _) (fun k e => .inl e)
end
section
open Go Go.RowKit
attribute [local go_sem] over_cell
attribute [local go_sem] Oper.semAt_some
end
section
open Go Go.RowKit
end
section
open Go Go.RowKit
attribute [local go_sem] over_cell
attribute [local go_sem] Oper.semAt_some
end
section
open Go Go.RowKit
end
section
open Go Go.RowKit
attribute [local go_sem] over_cell
attribute [local go_sem] Oper.semAt_some
end
section
open Go Go.RowKit
end
section
open Go Go.RowKit
attribute [local go_sem] over_cell
attribute [local go_sem] Oper.semAt_some
end
end Go.Proofs.YtaadpihbjhachaaGreat
