/- Texts J176 to J176 of this proof, in one file. -/
import Derived.Test.YtmfpdakaeagdpaaGreatW01
import Derived.Test.YtmfpdakaeagdpaaGreatW02
import Derived.Test.YtmfpdakaeagdpaaGreatW03
import Derived.Test.YtmfpdakaeagdpaaGreatW04
import Derived.Test.YtmfpdakaeagdpaaGreatW05
import Derived.Test.YtmfpdakaeagdpaaGreatW06
import Derived.Test.YtmfpdakaeagdpaaGreatW07
import Derived.Test.YtmfpdakaeagdpaaGreatW08
import Derived.Test.YtmfpdakaeagdpaaGreatW09
import Derived.Test.YtmfpdakaeagdpaaGreatW10
import Derived.Test.YtmfpdakaeagdpaaGreatW11
import Derived.Test.YtmfpdakaeagdpaaGreatW12
import Derived.Test.YtmfpdakaeagdpaaGreatW13
import Derived.Test.YtmfpdakaeagdpaaGreatW14
import Derived.Test.YtmfpdakaeagdpaaGreatW15
import Derived.Test.YtmfpdakaeagdpaaGreatW16
import Derived.Test.YtmfpdakaeagdpaaGreatW17
import Derived.Test.YtmfpdakaeagdpaaGreatW18
import Derived.Test.YtmfpdakaeagdpaaGreatW19
import Derived.Test.YtmfpdakaeagdpaaGreatW20
import Derived.Test.YtmfpdakaeagdpaaGreatW21
import Derived.Test.YtmfpdakaeagdpaaGreatW22
import Derived.Test.YtmfpdakaeagdpaaGreatW23
import Derived.Test.YtmfpdakaeagdpaaGreatW24
import Derived.Test.YtmfpdakaeagdpaaGreatW25
import Derived.Test.YtmfpdakaeagdpaaGreatW26
import Derived.Test.YtmfpdakaeagdpaaGreatW27
import Derived.Test.YtmfpdakaeagdpaaGreatX33n01
import Derived.Test.YtmfpdakaeagdpaaGreatX33n02
import Derived.Test.YtmfpdakaeagdpaaGreatX33n03
import Derived.Test.YtmfpdakaeagdpaaGreatX33n04
import Derived.Test.YtmfpdakaeagdpaaGreatX33n05
import Derived.Below
import Derived.BigFrame
import Derived.BigQuiet
import Derived.Deep.CutBlock
import Derived.Deep.CutRange
import Derived.Deep.LoopGhost
import Derived.Deep.Quiet
import Derived.Deep.RegionHeld3
import Derived.DeepKeys4
import Derived.KernelRfl
import Derived.Laws.BitsAllLaws
import Derived.Laws.EntriesVeiled
import Derived.Lib.AppendZeros
import Derived.Lib.Hide
import Derived.Lib.SlKeysI
import Derived.Lib.SliceRun
import Derived.LoopIn
import Derived.LoopNIn
import Derived.Maps.AppendAt
import Derived.Maps.OwnIn
import Derived.Maps.OwnSet
import Derived.OneCell
import Derived.OrdersHeld
import Derived.OrdersIn
import Derived.OwnWalkIn
import Derived.RangeFuncBound
import Derived.RangeFuncBox
import Derived.RangeFuncCalls
import Derived.RangeFuncLeaves
import Derived.RangeFuncNested
import Derived.RangeFuncWrites
import Derived.Shelf.Abstract
import Derived.Shelf.SortM.Plain
import Derived.Still
import Derived.TacticsIn
import Derived.TacticsInMore
import Derived.Test.YtmfpdakaeagdpaaGreatProg
import Derived.WalkKit
import Derived.WalkLawsBesides
import Derived.WalkSpells
import Derived.WideKeyPair
namespace Go.Proofs.YtmfpdakaeagdpaaGreat
set_option maxRecDepth 100000
set_option maxHeartbeats 16000000
section
open Go Go.RowKit
theorem cpE_nn (p:List Int) (r:Int):0≤cpE p r∧cpE p r≤100:=by
 rw[cpE_val]
 split
 ·split <;> omega
 ·omega
theorem lisotopes_c (r C:Int) (a:Option Addr) (n c:Nat) (cs:List Int) (aR:Option Addr) (nR cR:Nat) (XR:List Int) (aK:Option Addr) (nK cK:Nat) (XK:List Int) (aM:Option Addr) (nM cM:Nat) (XM:List Int) (p0 p1 p2:Int) (w:World) (h:IC w a n cs) (hcap:n≤c) (hR:IC w aR nR XR) (hK:IC w aK nK XK) (hM:IC w aM nM XM) :
  Calls Tryz.prog 18 #[.agg #[.int .i64 r,.int .i64 C,.slice a n c],.agg #[.slice aR nR cR,.slice aK nK cK,.slice aM nM cM,.int .i64 p0,.int .i64 p1,.int .i64 p2]] w fun e w'=>e = .returned (.bool true)∧Below w.heap.size w w':=by
 by_cases g0:25<n
 ·exact lisot_g r C a n c aR nR cR aK nK cK aM nM cM p0 p1 p2 w g0
 have HA:=fun W (hb:Below w.heap.size w W)=>rcheck_c r C a n c cs W (h.mono hb)
 by_cases h0:sqE 0 r C cs=0
 ·rw[h0] at HA
  obtain ⟨N,rfl,rfl,L⟩:=sqE_ok h0
  have hn:n=N*N:=by rw[← h.len];exact L.len
  have P0:=fun W (hb:Below w.heap.size w W)=>rckperm_c aR nR cR XR (N:Int) W (hR.mono hb)
  have P1:=fun W (hb:Below w.heap.size w W)=>rckperm_c aK nK cK XK (N:Int) W (hK.mono hb)
  have P2:=fun W (hb:Below w.heap.size w W)=>rckperm_c aM nM cM XM (N:Int) W (hM.mono hb)
  have P3:=fun W b (hi:IC W (some ⟨b,3,none⟩) 3 [p0,p1,p2])=>rckperm_c (some ⟨b,3,none⟩) 3 3 [p0,p1,p2] 3 W hi
  have b0:=cpE_nn XR (N:Int)
  have b1:=cpE_nn XK (N:Int)
  have b2:=cpE_nn XM (N:Int)
  have b3:=cpE_nn [p0,p1,p2] 3
  by_cases hs:cpE XR (N:Int)+cpE XK (N:Int)+cpE XM (N:Int)+cpE [p0,p1,p2] 3=0
  ·have e0:cpE XR (N:Int)=0:=by omega
   have e1:cpE XK (N:Int)=0:=by omega
   have e2:cpE XM (N:Int)=0:=by omega
   have e3:cpE [p0,p1,p2] 3=0:=by omega
   rw[e0] at P0
   rw[e1] at P1
   rw[e2] at P2
   rw[e3] at P3
   obtain ⟨q0,q1,q2,rfl,rfl,rfl,hq⟩:=perm3_of e3
   have PR:=perm_l e0
   have PK:=perm_l e1
   have PM:=perm_l e2
   have l0:nR=N:=by rw[← hR.len];exact PR.len
   have l1:nK=N:=by rw[← hK.len];exact PK.len
   have l2:nM=N:=by rw[← hM.len];exact PM.len
   subst l0
   subst l1 l2
   exact lisot_m _ a n c aR cR aK cK aM cM q0 q1 q2 w g0 hcap hn cs XR XK XM h hR hK hM L PR PK PM hq HA P0 P1 P2 P3
  ·exact lisot_p (N:Int) (N:Int) a n c aR nR cR aK nK cK aM nM cM p0 p1 p2 w g0 _ _ _ _ ⟨b0,b1,b2,b3⟩ hs HA P0 P1 P2 P3
 ·exact lisot_a r C a n c aR nR cR aK nK cK aM nM cM p0 p1 p2 w g0 _ h0 HA
end
end Go.Proofs.YtmfpdakaeagdpaaGreat
