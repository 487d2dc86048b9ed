/- Texts B4 to B5 of this proof, in one file. -/
import Derived.Test.YtaadpihbjhachaaGreatW08
import Derived.Test.YtaadpihbjhachaaGreatW28
import Derived.Test.YtaadpihbjhachaaGreatW61
namespace Go.Proofs.YtaadpihbjhachaaGreat
set_option maxRecDepth 100000
set_option maxHeartbeats 16000000
section
open Go Go.RowKit
def cmN (c:Bool) (N x:Int):Int:=if c=true then N+1 - x else x
def cgN (c:Bool) (N x:Int):Int:=if (c&&decide (0<x))=true then N+1 - x else x
def cmS (c:Bool) (N n sum:Int):Int:=if c=true then n*(N+1) - sum else sum
def movG (c:Bool) (p g:List Int):List Int:=movL p (g.map (cgN c g.length))
def movF (c:Bool) (p f:List Int):List Int:=movL p (f.map (cmN c f.length))
theorem map_get {h:Int→Int} {l:List Int} {i:Nat} (hi:i<l.length):(l.map h)[i]?.getD 0=h (l[i]?.getD 0):=by
 rw[List.getElem?_map,List.getElem?_eq_getElem hi];rfl
theorem movF_len (c:Bool) (p g:List Int):(movF c p g).length=g.length:=by unfold movF;rw[movL_len,List.length_map]
theorem movF_from {c:Bool} {p f:List Int} (hp:PermP p) (hl:p.length=f.length) {j:Nat} (hj:j<f.length):∃i,i<f.length∧p[i]?.getD 0=(j:Int)∧(movF c p f)[j]?.getD 0=cmN c f.length (f[i]?.getD 0):=by
 obtain ⟨i,hi,e,h⟩:=movL_from (vs:=f.map (cmN c f.length)) hp (by rw[List.length_map];exact hl) (j:=j) (by rw[List.length_map];exact hj)
 rw[List.length_map] at hi
 exact ⟨i,hi,e,h.trans (map_get hi)⟩
end
section
open Go Go.RowKit
theorem pair_asc {l:List Int} (h:l.Pairwise (·<·)):∀k:Nat,0<k→k<l.length→l[k - 1]?.getD 0<l[k]?.getD 0:=by
 intro k h0 hk
 rw[List.pairwise_iff_getElem] at h
 have:=h (k - 1) k (by omega) hk (by omega)
 rw[List.getElem?_eq_getElem hk,List.getElem?_eq_getElem (show k - 1<l.length by omega)]
 exact this
end
end Go.Proofs.YtaadpihbjhachaaGreat
