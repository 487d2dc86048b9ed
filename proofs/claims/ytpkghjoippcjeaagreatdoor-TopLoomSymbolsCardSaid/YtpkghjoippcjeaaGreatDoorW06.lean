/- Texts O1 to O1 of this proof, in one file. -/
import Derived.Test.YtpkghjoippcjeaaGreatDoorW01
import Derived.ProofKit
import Derived.SizedLaws
import Derived.Deep.Matrix
import Derived.Lib.SmallJoins
namespace Go.Proofs.YtpkghjoippcjeaaGreatDoor
set_option maxRecDepth 100000
set_option maxHeartbeats 16000000
section
open Go Go.RowKit Go.ChangeShapes Go.WideShapes
theorem O1.cells3:Tryz.prog.cellsOf 3=1:=by kernel_rfl
theorem O1.cells25:Tryz.prog.cellsOf 22=1:=by kernel_rfl
theorem O1.bytes25:Tryz.prog.bytesOf 22=24:=by kernel_rfl
theorem O1.bytes3:Tryz.prog.bytesOf 3=8:=by kernel_rfl
theorem O1.reach:reachBytes=140737488351232:=rfl
theorem O1.weightsAll_mem {H:Type} {P:Program} {e:TypeId}:∀{l:List (DataW H)} {d:DataW H},d∈l→∀n∈d.weights P e,n∈DataW.weightsAll P e l
 | d' :: r,d,hd,n,hn=>by
  simp only[DataW.weightsAll,List.mem_append]
  rcases List.mem_cons.1 hd with rfl|h
  ·exact Or.inl hn
  ·exact Or.inr (O1.weightsAll_mem h n hn)
section
variable {H:Type} {enc:TypeId × Value→H} {w:World} {held:Bool}
theorem O1.ints {fuel:Nat} {c:Value} {y:DataW H × List MemPlace} (h:DataW.trod enc Tryz.prog w 0 (fun _=>true) held fuel 22 [c]=some y) (hz:∀n∈y.1.weights Tryz.prog 22,n≤reachBytes) :
  ∃a n cap g,c = .slice a n cap∧n≤cap∧IC w a n g:=by
 rcases open_ints Tryz.underlying22 Tryz.underlying3 O1.cells3 h with ⟨hcs,_⟩|⟨x,l,cap,zs,hcs,_,hl,hm,hzl,hy,hcell,hwz⟩
 ·simp only[List.cons.injEq,and_true] at hcs
  exact ⟨none,0,0,[],hcs,Nat.le_refl _,⟨rfl,by omega⟩,fun k hk=>absurd hk (Nat.not_lt_zero _)⟩
 ·simp only[List.cons.injEq,and_true] at hcs
  simp only[if_true] at hzl
  rw[hy] at hz
  have h1:=hz _ (by simp only[DataW.weights,Tryz.underlying22];exact List.mem_cons_self)
  simp only[lits,List.length_map,List.length_take,List.length_drop,O1.bytes3,O1.reach] at h1
  refine ⟨some x,l,cap,zs.take l,hcs,hl,⟨by rw[List.length_take];omega,by omega⟩,fun k hk=>?_⟩
  have h2:=hcell k (by omega)
  obtain ⟨b,off,spot⟩:=x
  have hs:spot=none:=by simpa [Addr.add] using World.cell?_spot (hcell 0 (by omega))
  subst hs
  have h3:w.cell? ⟨b,off+k,none⟩=some (.int .i64 (zs.getD k 0)):=by rw[add_plain] at h2;exact h2
  refine ⟨b,off,rfl,World.block_lt_of_cell? _ _ h3,?_⟩
  rw[h3,List.getElem?_take,if_pos hk]
  simp[List.getD]
theorem O1.rows {fuel:Nat} {c:Value} {y:DataW H × List MemPlace} (h:DataW.trod enc Tryz.prog w 0 (fun _=>true) held fuel 28 [c]=some y) (hz:∀n∈y.1.weights Tryz.prog 28,n≤reachBytes) :
  ∃a n cap ls,c = .slice a n cap∧n≤cap∧RC w a n ls:=by
 rcases Go.Deep.open_int_rows Tryz.underlying28 Tryz.underlying22 Tryz.underlying3 O1.cells25 O1.cells3 h with ⟨hcs,_⟩|⟨x,l,cap,A,L,C,Z,hcs,_,hl,hm,hy,hrow⟩
 ·simp only[List.cons.injEq,and_true] at hcs
  exact ⟨none,0,0,[],hcs,Nat.le_refl _,⟨rfl,by omega⟩,fun k hk=>absurd hk (Nat.not_lt_zero _)⟩
 ·simp only[List.cons.injEq,and_true] at hcs
  rw[hy] at hz
  have h1:=hz _ (by simp only[DataW.weights,Tryz.underlying28];exact List.mem_cons_self)
  simp only[List.length_map,List.length_range,O1.bytes25,O1.reach] at h1
  have hin:∀r,r<l→C r≤17592186044416:=by
   intro r hr
   obtain ⟨_,hLC,_,hZ,_,hnil,_⟩:=hrow r (by omega)
   cases hA:A r with
   | none=>rw[hnil hA];omega
   | some a' =>
    have h2:=hz ((((Z r).take (L r)).length+((Z r).drop (L r)).length)*8) (by
     simp only[DataW.weights,Tryz.underlying28]
     refine List.mem_cons_of_mem _ (List.mem_append_left _ (O1.weightsAll_mem (d:=Go.Deep.intRow .i64 (A r) (L r) (Z r)) (List.mem_map.2 ⟨r,List.mem_range.2 hr,rfl⟩) _ ?_))
     simp only[Go.Deep.intRow,hA,DataW.weights,Tryz.underlying22,lits,List.length_map,O1.bytes3]
     exact List.mem_cons_self)
    rw[List.length_take,List.length_drop,O1.reach] at h2
    omega
  obtain ⟨b,off,spot⟩:=x
  refine ⟨some ⟨b,off,spot⟩,l,cap,(List.range l).map (fun r=>(Z r).take (L r)),hcs,hl,⟨by simp,by omega⟩,fun r hr=>?_⟩
  obtain ⟨hc,hLC,_,hZ,_,hnil,hcells⟩:=hrow r (by omega)
  have hs:spot=none:=by simpa [Addr.add] using World.cell?_spot (hrow 0 (by omega)).1
  subst hs
  have h3:w.cell? ⟨b,off+r,none⟩=some (.slice (A r) (L r) (C r)):=by rw[add_plain] at hc;exact hc
  have hCr:=hin r hr
  refine ⟨b,off,A r,L r,C r,rfl,World.block_lt_of_cell? _ _ h3,h3,?_,hLC⟩
  rw[List.getElem?_map,List.getElem?_range hr]
  refine ⟨⟨by simp only[Option.map_some,Option.getD_some];rw[List.length_take];omega,by omega⟩,fun k hk=>?_⟩
  cases hA:A r with
  | none=>have:=hnil hA;omega
  | some a' =>
   have h4:=(hcells a' hA).2 k (by omega)
   obtain ⟨b',off',spot'⟩:=a'
   have hs':spot'=none:=by simpa [Addr.add] using World.cell?_spot ((hcells _ hA).2 0 (by omega))
   subst hs'
   have h5:w.cell? ⟨b',off'+k,none⟩=some (.int .i64 ((Z r).getD k 0)):=by rw[add_plain] at h4;exact h4
   refine ⟨b',off',rfl,World.block_lt_of_cell? _ _ h5,?_⟩
   rw[h5]
   simp only[Option.map_some,Option.getD_some]
   rw[List.getElem?_take,if_pos hk]
   simp[List.getD]
end
end
end Go.Proofs.YtpkghjoippcjeaaGreatDoor
