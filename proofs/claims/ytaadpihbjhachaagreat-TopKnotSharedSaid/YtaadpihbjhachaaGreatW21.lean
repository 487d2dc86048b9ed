/- Texts B14 to O4 of this proof, in one file. -/
import Derived.Test.YtaadpihbjhachaaGreatW09
import Derived.Test.YtaadpihbjhachaaGreatW12
import Derived.Test.YtaadpihbjhachaaGreatW14
import Derived.Test.YtaadpihbjhachaaGreatW16
namespace Go.Proofs.YtaadpihbjhachaaGreat
set_option maxRecDepth 100000
set_option maxHeartbeats 16000000
section
open Go Go.RowKit
theorem small_zero {cells:Int} {ls:List (List Int)} {sum:Int} {g:List Int} (h:taskErr cells ls sum g=0) (ho:(openL g).length≤16):smallErr cells ls sum g=0:=by
 unfold smallErr
 rw[h,if_neg (by decide),decide_eq_false (by omega)]
 rfl
end
section
open Go Go.RowKit Go.ChangeShapes Go.WideShapes
theorem O4.cellsY:Tryz.prog.cellsOf 29=2:=by kernel_rfl
section
variable {H:Type} {enc:TypeId × Value→H} {w:World} {held:Bool}
theorem open_sym {base:Nat} {v:Value} {d:DataW H} {p:List MemPlace} (hv:Value.okWide Tryz.prog w .any base 29 v) (h:DataW.Trod enc Tryz.prog w 0 (fun _=>true) held 29 v d p) (hz:∀n∈d.weights Tryz.prog 29,n≤reachBytes) :
  ∃(a:Option Addr) (n c:Nat) (P:List Int) (b:Bool),v = .agg #[.slice a n c,.bool b]∧n≤c∧IC w a n P:=by
 obtain ⟨cs,rfl,hsz⟩:=okWide_struct Tryz.underlying29 hv
 obtain ⟨c0,c1,rfl⟩:=Go.Joins.array2 (hsz.trans O4.cellsY)
 obtain ⟨fuel,hf⟩:=h
 obtain ⟨y0,y1,m,hx,_,h0,h1⟩:=trod_struct2 Tryz.underlying29 hf
 have h0':DataW.trod enc Tryz.prog w 0 (fun _=>true) held m 25 [c0]=some y0:=by simpa [Value.cells,O1.cells25] using h0
 have h1':DataW.trod enc Tryz.prog w 0 (fun _=>true) held m 4 [c1]=some y1:=by simpa [Value.cells,O3.cellsB] using h1
 simp only[Prod.mk.injEq] at hx
 obtain ⟨rfl,rfl⟩:=hx
 have hwz:∀n,n∈y0.1.weights Tryz.prog 25→n≤reachBytes:=by
  intro n hn
  refine hz n ?_
  simp only[DataW.weights,Tryz.underlying29,List.map_cons,List.map_nil,DataW.weightsEach,List.mem_append]
  exact .inl hn
 obtain ⟨a,n,c,P,rfl,hc,hP⟩:=O1.ints h0' hwz
 obtain ⟨b,e2,_⟩:=DataW.trod_bool Tryz.underlying4 h1'
 simp only[List.cons.injEq,and_true] at e2
 exact ⟨a,n,c,P,b,by rw[e2],hc,hP⟩
end
end
end Go.Proofs.YtaadpihbjhachaaGreat
