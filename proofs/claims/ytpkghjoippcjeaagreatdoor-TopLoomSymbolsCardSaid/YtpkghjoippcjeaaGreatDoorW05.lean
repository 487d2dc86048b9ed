/- Texts H3 to M8 of this proof, in one file. -/
import Derived.Test.YtpkghjoippcjeaaGreatDoorW03
import Derived.Test.YtpkghjoippcjeaaGreatDoorW04
import Derived.Deep.CutBlock
import Derived.Deep.CutRange
import Derived.Laws.EntriesVeiled
namespace Go.Proofs.YtpkghjoippcjeaaGreatDoor
set_option maxRecDepth 100000
set_option maxHeartbeats 16000000
section
open Go Go.RowKit
structure Nd where
 kind:ByteArray
 cell:Int
 line:Int
 number:Int
 kids:Int
def isK (s k:ByteArray):Bool:=s.toList==k.toList
def TC (w:World) (a:Option Addr) (n:Nat) (T:List Nd):Prop :=
 (T.length=n∧n≤4398046511104)∧∀k d,T[k]?=some d→∃b off,a=some ⟨b,off,none⟩∧b<w.heap.size∧w.cell? ⟨b,off+k*5,none⟩=some (.string d.kind)∧w.cell? ⟨b,off+k*5+1,none⟩=some (.int .i64 d.cell)∧w.cell? ⟨b,off+k*5+2,none⟩=some (.int .i64 d.line)∧w.cell? ⟨b,off+k*5+3,none⟩=some (.int .i64 d.number)∧w.cell? ⟨b,off+k*5+4,none⟩=some (.int .i64 d.kids)
theorem TC.mono {w w':World} {a:Option Addr} {n:Nat} {T:List Nd} (h:TC w a n T) (hb:Below w.heap.size w w'):TC w' a n T :=
 ⟨h.1,fun k d hk=>by
  obtain ⟨b,off,e,hlt,c0,c1,c2,c3,c4⟩:=h.2 k d hk
  exact ⟨b,off,e,Nat.lt_of_lt_of_le hlt hb.size,((bcell hb).1 b _ hlt).trans c0,((bcell hb).1 b _ hlt).trans c1,((bcell hb).1 b _ hlt).trans c2,((bcell hb).1 b _ hlt).trans c3,((bcell hb).1 b _ hlt).trans c4⟩⟩
end
section
open Go Go.RowKit
attribute [local go_sem] over_cell
attribute [local go_sem] Oper.semAt_some
def StC (w:World) (a:Option Addr) (n:Nat) (xs:List ByteArray):Prop :=
 (xs.length=n∧n≤17592186044416)∧∀k,k<n→∃b off,a=some ⟨b,off,none⟩∧b<w.heap.size∧w.cell? ⟨b,off+k,none⟩=some (.string (xs[k]?.getD ⟨#[]⟩))
theorem sindex_c (a:Option Addr) (n c:Nat) (xs:List ByteArray) (x:ByteArray) (w:World) (h:StC w a n xs) :
  Calls Tryz.prog 46 #[.slice a n c,.string x] w fun e w'=>e = .returned (.int .i64 (idxP (fun k=>isK x (xs[k]?.getD ⟨#[]⟩)) n))∧w=w':=by
 have hm:=h.1.2
 go_enter Tryz.func46,Tryz.ntmps46
 go_wp2
 go_loop [5,8] (fun _ i=>∃k:Nat,k≤n∧i = .int .i64 k∧Hid (∀j,j<k→isK x (xs[j]?.getD ⟨#[]⟩)=false)) (fun _ i=>n - (intOf i).toNat)
 case atStart=>exact ⟨0,by omega,rfl,fun j hj=>absurd hj (by omega)⟩
 case round =>
  obtain ⟨k,hk,rfl,hn⟩:=hrel
  by_cases hlt:k<n
  ·obtain ⟨b,off,rfl,hb,hc⟩:=h.2 k hlt
   have hK:=Lib.hid (upB_snoc (f:=fun j=>isK x (xs[j]?.getD ⟨#[]⟩)) hn.out)
   have hH:=Lib.hid (fun e=>idxP_hit (p:=fun j=>isK x (xs[j]?.getD ⟨#[]⟩)) hn.out hlt e)
   generalize xs[k]?.getD ⟨#[]⟩=y at hc hK hH
   go_wp2
   ·have he:(x.toList==y.toList)=true:=by assumption
    go_ret
    exact ⟨ret_int (hH.out he).symm,rfl⟩
   ·have he:(x.toList==y.toList)=false:=by assumption
    go_round
    case rel=>exact ⟨k+1,by omega,by go_num,hK.out he⟩
    case measure=>simp[intOf];omega
  ·have e:k=n:=by omega
   subst e
   go_wp2
   go_ret
   exact ⟨ret_int (idxP_none hn.out).symm,rfl⟩
theorem scontains_c (a:Option Addr) (n c:Nat) (xs:List ByteArray) (x:ByteArray) (w:World) (h:StC w a n xs) :
  Calls Tryz.prog 28 #[.slice a n c,.string x] w fun e w'=>e = .returned (.bool (anyP (fun k=>isK x (xs[k]?.getD ⟨#[]⟩)) n))∧w=w':=by
 have hE:Hid (decide (0≤idxP (fun k=>isK x (xs[k]?.getD ⟨#[]⟩)) n)=anyP (fun k=>isK x (xs[k]?.getD ⟨#[]⟩)) n):=by
  unfold Hid;rw[idxP_ge]
 have hI:=sindex_c a n c xs x w h
 generalize idxP (fun k=>isK x (xs[k]?.getD ⟨#[]⟩)) n=r at hE hI
 have HI:=Lib.hid hI
 clear hI
 go_enter Tryz.func28,Tryz.ntmps28
 go_wp2_with (go_at_call 46;refine HI.out.mono ?_;rintro e w1 ⟨rfl,rfl⟩)
 go_ret
 exact ⟨ret_bool hE.out,rfl⟩
theorem StC.new3 (w:World) (x y z:ByteArray) (T:TypeId):StC (w.alloc (.cells #[.string x,.string y,.string z] T)) (some ⟨w.heap.size,0,none⟩) 3 [x,y,z] :=
 ⟨⟨rfl,by omega⟩,fun k hk=>⟨w.heap.size,0,rfl,by simp,by
  rw[Nat.zero_add,box_cells]
  match k,hk with
  | 0,_=>rfl
  | 1,_=>rfl
  | 2,_=>rfl⟩⟩
end
end Go.Proofs.YtpkghjoippcjeaaGreatDoor
