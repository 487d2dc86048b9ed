/- Texts O3 to O3 of this proof, in one file. -/
import Derived.Test.YtpkghjoippcjeaaGreatDoorW06
import Derived.ChangeArms
namespace Go.Proofs.YtpkghjoippcjeaaGreatDoor
set_option maxRecDepth 100000
set_option maxHeartbeats 16000000
section
open Go Go.RowKit Go.ChangeShapes Go.WideShapes
theorem O3.cells8:Tryz.prog.cellsOf 5=1:=by kernel_rfl
theorem O3.bytes8:Tryz.prog.bytesOf 5=1:=by kernel_rfl
def BC (w:World) (a:Option Addr) (n:Nat) (xs:List Int):Prop :=
 (xs.length=n∧n≤140737488351232)∧∀k,k<n→(0≤xs[k]?.getD 0∧xs[k]?.getD 0≤255)∧∃b off,a=some ⟨b,off,none⟩∧b<w.heap.size∧w.cell? ⟨b,off+k,none⟩=some (.int .u8 (xs[k]?.getD 0))
theorem BC.mono {w w':World} {a:Option Addr} {n:Nat} {xs:List Int} (h:BC w a n xs) (hb:Below w.heap.size w w'):BC w' a n xs :=
 ⟨h.1,fun k hk=>by
  obtain ⟨hr,b,off,e,hlt,hc⟩:=h.2 k hk
  exact ⟨hr,b,off,e,Nat.lt_of_lt_of_le hlt hb.size,((bcell hb).1 b _ hlt).trans hc⟩⟩
theorem wf_u8 {n:Int} (h:(Lit.int .u8 n).wf=true):0≤n∧n≤255:=by
 have h1:(decide (IntKind.u8.min≤n)&&decide (n≤IntKind.u8.max))=true:=h
 rw[Bool.and_eq_true,decide_eq_true_eq,decide_eq_true_eq] at h1
 exact ⟨h1.1,h1.2⟩
section
variable {H:Type} {enc:TypeId × Value→H} {w:World} {held:Bool}
theorem O3.bytes {fuel:Nat} {c:Value} {y:DataW H × List MemPlace} (h:DataW.trod enc Tryz.prog w 0 (fun _=>true) held fuel 25 [c]=some y) (hz:∀n∈y.1.weights Tryz.prog 25,n≤reachBytes) :
  ∃a n cap g,c = .slice a n cap∧n≤cap∧BC w a n g:=by
 rcases open_ints Tryz.underlying25 Tryz.underlying5 O3.cells8 h with ⟨hcs,_⟩|⟨x,l,cap,zs,hcs,_,hl,hm,hzl,hy,hcell,hwz⟩
 ·simp only[List.cons.injEq,and_true] at hcs
  exact ⟨none,0,0,[],hcs,Nat.le_refl _,⟨rfl,by omega⟩,fun k hk=>absurd hk (Nat.not_lt_zero _)⟩
 ·simp only[List.cons.injEq,and_true] at hcs
  simp only[if_true] at hzl
  rw[hy] at hz
  have h1:=hz _ (by simp only[DataW.weights,Tryz.underlying25];exact List.mem_cons_self)
  simp only[lits,List.length_map,List.length_take,List.length_drop,O3.bytes8,O1.reach] at h1
  refine ⟨some x,l,cap,zs.take l,hcs,hl,⟨by rw[List.length_take];omega,by omega⟩,fun k hk=>?_⟩
  have h2:=hcell k (by omega)
  obtain ⟨b,off,spot⟩:=x
  have hs:spot=none:=by simpa [Addr.add] using World.cell?_spot (hcell 0 (by omega))
  subst hs
  have h3:w.cell? ⟨b,off+k,none⟩=some (.int .u8 (zs.getD k 0)):=by rw[add_plain] at h2;exact h2
  have h4:(zs.take l)[k]?.getD 0=zs.getD k 0:=by rw[List.getElem?_take,if_pos hk];simp[List.getD]
  rw[h4]
  have h5:zs.getD k 0∈zs:=by
   rw[List.getD_eq_getElem?_getD,List.getElem?_eq_getElem (show k<zs.length by omega)]
   exact List.getElem_mem _
  exact ⟨wf_u8 (hwz _ h5),b,off,rfl,World.block_lt_of_cell? _ _ h3,h3⟩
end
end
end Go.Proofs.YtpkghjoippcjeaaGreatDoor
