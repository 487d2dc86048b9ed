/- Texts J104 to J104 of this proof, in one file. -/
import Derived.Test.YtmfpdakaeagdpaaGreatW01
import Derived.Test.YtmfpdakaeagdpaaGreatW02
import Derived.Test.YtmfpdakaeagdpaaGreatW03
import Derived.Test.YtmfpdakaeagdpaaGreatW04
import Derived.Test.YtmfpdakaeagdpaaGreatW05
import Derived.Test.YtmfpdakaeagdpaaGreatW06
import Derived.Test.YtmfpdakaeagdpaaGreatW07
import Derived.Test.YtmfpdakaeagdpaaGreatW08
import Derived.Test.YtmfpdakaeagdpaaGreatW09
import Derived.Test.YtmfpdakaeagdpaaGreatW10
import Derived.Test.YtmfpdakaeagdpaaGreatW11
import Derived.Test.YtmfpdakaeagdpaaGreatW12
import Derived.Test.YtmfpdakaeagdpaaGreatW13
import Derived.Test.YtmfpdakaeagdpaaGreatW14
import Derived.Test.YtmfpdakaeagdpaaGreatW15
import Derived.Test.YtmfpdakaeagdpaaGreatW16
import Derived.Test.YtmfpdakaeagdpaaGreatW17
import Derived.Test.YtmfpdakaeagdpaaGreatW18
import Derived.Test.YtmfpdakaeagdpaaGreatW19
import Derived.Test.YtmfpdakaeagdpaaGreatW20
import Derived.Test.YtmfpdakaeagdpaaGreatW21
import Derived.Test.YtmfpdakaeagdpaaGreatW22
import Derived.Test.YtmfpdakaeagdpaaGreatW23
import Derived.Test.YtmfpdakaeagdpaaGreatW24
import Derived.Test.YtmfpdakaeagdpaaGreatW25
import Derived.Below
import Derived.BigFrame
import Derived.BigQuiet
import Derived.Deep.CutBlock
import Derived.Deep.CutRange
import Derived.Deep.LoopGhost
import Derived.Deep.Quiet
import Derived.Deep.RegionHeld3
import Derived.DeepKeys4
import Derived.KernelRfl
import Derived.Laws.BitsAllLaws
import Derived.Laws.EntriesVeiled
import Derived.Lib.AppendZeros
import Derived.Lib.Hide
import Derived.Lib.SlKeysI
import Derived.Lib.SliceRun
import Derived.LoopIn
import Derived.LoopNIn
import Derived.Maps.AppendAt
import Derived.Maps.OwnIn
import Derived.Maps.OwnSet
import Derived.OneCell
import Derived.OrdersHeld
import Derived.OrdersIn
import Derived.OwnWalkIn
import Derived.RangeFuncBound
import Derived.RangeFuncBox
import Derived.RangeFuncCalls
import Derived.RangeFuncLeaves
import Derived.RangeFuncNested
import Derived.RangeFuncWrites
import Derived.Shelf.Abstract
import Derived.Shelf.SortM.Plain
import Derived.Still
import Derived.TacticsIn
import Derived.TacticsInMore
import Derived.Test.YtmfpdakaeagdpaaGreatProg
import Derived.WalkKit
import Derived.WalkLawsBesides
import Derived.WalkSpells
import Derived.WideKeyPair
namespace Go.Proofs.YtmfpdakaeagdpaaGreat
set_option maxRecDepth 100000
set_option maxHeartbeats 16000000
section
open Go Go.RowKit
theorem ic_lit (w:World) (xs:List Int) (h:xs.length≤1000):IC (w.alloc (.cells (xs.map (Value.int .i64)).toArray 3)) (some ⟨w.heap.size,0,none⟩) xs.length xs :=
 ⟨⟨rfl,by omega⟩,fun k hk=>⟨w.heap.size,0,rfl,by simp,by
  rw[Nat.zero_add]
  have hq:=World.alloc_heap_new w (.cells (xs.map (Value.int .i64)).toArray 3)
  rw[q_cell hq k]
  simp[hk]⟩⟩
theorem IC.sub {W:World} {g off n lo hi:Nat} {xs:List Int} (h:IC W (some ⟨g,off,none⟩) n xs) (h1:lo≤hi) (h2:hi≤n):IC W (some ⟨g,off+lo,none⟩) (hi - lo) ((xs.take hi).drop lo) :=
 ⟨⟨by have:=h.1.1;rw[List.length_drop,List.length_take];omega,by have:=h.1.2;omega⟩,fun k hk=>by
  obtain ⟨b,o,e,hl,hc⟩:=h.2 (lo+k) (by omega)
  simp only[Option.some.injEq,Addr.mk.injEq,and_true] at e
  obtain ⟨rfl,rfl⟩:=e
  refine ⟨g,off+lo,rfl,hl,?_⟩
  rw[Nat.add_assoc,hc,List.getElem?_drop,List.getElem?_take,if_pos (by omega)]⟩
theorem ic_at {W:World} {a:Option Addr} {n:Nat} {xs:List Int} (h:IC W a n xs) (hn:1≤n):∃g off,a=some ⟨g,off,none⟩:=by
 obtain ⟨b,o,e,_⟩:=h.2 0 (by omega)
 exact ⟨b,o,e⟩
theorem rc_lit3 {W:World} {a1 a2 a3:Option Addr} {n1 n2 n3 c1 c2 c3:Nat} {x1 x2 x3:List Int} (T:TypeId) (h1:IC W a1 n1 x1) (h2:IC W a2 n2 x2) (h3:IC W a3 n3 x3) (l1:n1≤c1) (l2:n2≤c2) (l3:n3≤c3) :
  RC (W.alloc (.cells #[.slice a1 n1 c1,.slice a2 n2 c2,.slice a3 n3 c3] T)) (some ⟨W.heap.size,0,none⟩) 3 [x1,x2,x3]:=by
 have hb:Below W.heap.size W (W.alloc (.cells #[.slice a1 n1 c1,.slice a2 n2 c2,.slice a3 n3 c3] T)):=keep_alloc (Below.refl _ _) _
 have hq:=World.alloc_heap_new W (.cells #[.slice a1 n1 c1,.slice a2 n2 c2,.slice a3 n3 c3] T)
 refine ⟨⟨rfl,by omega⟩,fun k hk=>?_⟩
 match k,hk with
 | 0,_=>exact ⟨W.heap.size,0,a1,n1,c1,rfl,by simp,q_cell hq 0,h1.mono hb,l1⟩
 | 1,_=>exact ⟨W.heap.size,0,a2,n2,c2,rfl,by simp,q_cell hq 1,h2.mono hb,l2⟩
 | 2,_=>exact ⟨W.heap.size,0,a3,n3,c3,rfl,by simp,q_cell hq 2,h3.mono hb,l3⟩
def GV (w:World) (r C:Int) (n:Nat) (cs:List Int) (er:Int) (e:Ending) (w':World):Prop :=
 ∃a c,e = .returned (.tuple #[.agg #[.int .i64 r,.int .i64 C,.slice a n c],.int .i64 er])∧IC w' a n cs∧n≤c∧Below w.heap.size w w'
theorem gv_of {w:World} {r C:Int} {cs:List Int} {er:Int} {e:Ending} {w':World} (h:GridE w r C cs er e w') (hl:cs.length≤1000):GV w r C cs.length cs er e w':=by
 obtain ⟨a,c,he,ho,hb⟩:=h
 have:=IC.of_owns ho (by omega)
 exact ⟨a,c,he,this.1,this.2,hb⟩
theorem aC_cyc (w:World):Calls Tryz.prog 54 #[.int .i64 3] w (GV w 3 3 9 X3 0):=by
 have h:=cyclic_c 3 w
 rw[aw_cyc.1,aw_cyc.2] at h
 exact h.mono fun e w' h=>gv_of h (by decide)
theorem aC_tr (a:Option Addr) (c:Nat) (w:World) (h:IC w a 9 X3):Calls Tryz.prog 67 #[.agg #[.int .i64 3,.int .i64 3,.slice a 9 c]] w fun e w'=>∃a9 c9,e = .returned (.tuple #[.slice a9 3 c9,.int .i64 0])∧RC w' a9 3 [[0,1,2],[1,2,0],[2,0,1]]∧Below w.heap.size w w':=by
 have h:=transv_c 3 3 a 9 c X3 w h
 rw[aw_tr.1,aw_tr.2] at h
 exact h
theorem aC_mt (a:Option Addr) (c:Nat) (w:World) (h:IC w a 9 X3):Calls Tryz.prog 21 #[.agg #[.int .i64 3,.int .i64 3,.slice a 9 c]] w (GV w 3 3 9 [0,1,2,2,0,1,1,2,0] 0):=by
 have h:=mate_c 3 3 a 9 c X3 w h
 rw[aw_mt.1,aw_mt.2] at h
 exact h.mono fun e w' h=>gv_of h (by decide)
theorem L4_latin:Latin 4 L4:=by
 obtain ⟨n,h1,h2,L⟩:=sqE_ok aw_l4.1
 have:n=4:=by omega
 rw[← this];exact L
theorem aC_l4 (w:World):Calls Tryz.prog 60 #[.int .i64 4,.int .i64 1,.int .i64 1] w (GridR w 4 16 L4):=rlin_c 4 1 1 w (by omega) (by omega)
theorem aC_l2 (w:World):Calls Tryz.prog 60 #[.int .i64 2,.int .i64 1,.int .i64 1] w (GridR w 2 4 L2):=rlin_c 2 1 1 w (by omega) (by omega)
theorem aC_rf (a:Option Addr) (c:Nat) (w:World) (h:IC w a 16 L4):Calls Tryz.prog 49 #[.agg #[.int .i64 4,.int .i64 4,.slice a 16 c]] w fun e w'=>e = .returned (.tuple #[.int .i64 4,.int .i64 0])∧Below w.heap.size w w':=by
 have h:=lrefute_c 4 a 16 c L4 w h L4_latin.sq aw_l4.1
 rw[aw_l4.2.1,aw_l4.2.2] at h
 exact h
theorem aC_m4 (a:Option Addr) (c:Nat) (w:World) (h:IC w a 16 L4):Calls Tryz.prog 21 #[.agg #[.int .i64 4,.int .i64 4,.slice a 16 c]] w (GV w 0 0 0 [] 7):=by
 have h:=mate_c 4 4 a 16 c L4 w h
 rw[aw_m4.1,aw_m4.2] at h
 exact h.mono fun e w' h=>gv_of h (by decide)
theorem aC_f4 (w:World):Calls Tryz.prog 56 #[.int .i64 4] w fun e w'=>∃a c a2 c2,e = .returned (.tuple #[.agg #[.int .i64 4,.int .i64 4,.slice a 16 c],.agg #[.int .i64 4,.int .i64 4,.slice a2 16 c2],.int .i64 0])∧IC w' a 16 (fadL 4)∧IC w' a2 16 (ftiL 4)∧16≤c∧16≤c2∧Below w.heap.size w w':=by
 have h:=field_ok 4 (by omega) (by omega) aw_f4.1 w
 unfold TwoG at h
 rw[aw_f4.2.1,aw_f4.2.2.1] at h
 exact h
theorem aC_fam (w:World):Calls Tryz.prog 57 #[.int .i64 4] w fun e w'=>∃a c,e = .returned (.tuple #[.slice a 3 c,.int .i64 0])∧GL w' a 3 4 (famL 4)∧Below w.heap.size w w':=by
 have h:=family_ok 4 (by omega) (by omega) aw_f4.1 w
 unfold GridsE at h
 rw[aw_fam.1] at h
 exact h
theorem aC_me (a a2:Option Addr) (c c2:Nat) (w:World) (h:IC w a 4 L2) (h2:IC w a2 4 L2):Calls Tryz.prog 46 #[.agg #[.int .i64 2,.int .i64 2,.slice a 4 c],.agg #[.int .i64 2,.int .i64 2,.slice a2 4 c2]] w fun e w'=>e = .returned (.tuple #[.int .i64 1,.int .i64 2,.int .i64 0])∧Below w.heap.size w w':=by
 have h:=meet2_c 2 2 2 2 a 4 c L2 a2 4 c2 L2 w h h2
 unfold meetV at h
 rw[if_pos aw_meet.1,aw_meet.2] at h
 exact h
theorem aC_co (a:Option Addr) (c:Nat) (w:World) (h:IC w a 4 [0,-1,-1,-1]):Calls Tryz.prog 27 #[.agg #[.int .i64 2,.int .i64 2,.slice a 4 c],.int .i64 5] w fun e w'=>∃a c,e = .returned (.tuple #[.slice a 1 c,.int .i64 0])∧GL w' a 1 2 [[0,1,1,0]]∧Below w.heap.size w w':=by
 have h:=complete_c 2 2 a 4 c [0,-1,-1,-1] 5 w h
 unfold GridsE at h
 rw[aw_co.1,aw_co.2] at h
 exact h
theorem iv_of {w:World} {l:List Int} {er:Int} {e:Ending} {w':World} (h:IntsE w l er e w') (hl:l.length≤1000):∃a c,e = .returned (.tuple #[.slice a l.length c,.int .i64 er])∧IC w' a l.length l∧Below w.heap.size w w':=by
 obtain ⟨a,c,he,ho,hb⟩:=h
 exact ⟨a,c,he,(IC.of_owns ho (by omega)).1,hb⟩
theorem aC_rp (a:Option Addr) (c:Nat) (w:World) (h:RC w a 3 S3):Calls Tryz.prog 31 #[.slice a 3 c] w fun e w'=>∃a c,e = .returned (.tuple #[.slice a 3 c,.int .i64 0])∧IC w' a 3 [1,0,2]∧Below w.heap.size w w':=by
 have h:=represent_c a 3 c S3 w h
 rw[aw_rp.1,aw_rp.2] at h
 exact h.mono fun e w' h=>iv_of h (by decide)
theorem aC_ha (a:Option Addr) (c:Nat) (w:World) (h:RC w a 3 T3):Calls Tryz.prog 32 #[.slice a 3 c] w fun e w'=>∃a c,e = .returned (.tuple #[.slice a 3 c,.int .i64 0])∧IC w' a 3 [0,1,2]∧Below w.heap.size w w':=by
 have h:=hall_c a 3 c T3 w h
 rw[aw_ha.1,aw_ha.2.1] at h
 exact h.mono fun e w' h=>iv_of h (by decide)
theorem aC_ch (a a2:Option Addr) (c c2:Nat) (w:World) (h:RC w a 3 T3) (h2:IC w a2 3 [0,1,2]):Calls Tryz.prog 33 #[.slice a 3 c,.slice a2 3 c2] w fun e w'=>e = .returned (.int .i64 0)∧Below w.heap.size w w':=by
 have h:=checkhall_c a 3 c T3 a2 3 c2 [0,1,2] w h h2
 rw[aw_ha.2.2] at h
 exact h
theorem aC_ex (a:Option Addr) (w:World) (h:IC w a 3 [0,1,2]):Calls Tryz.prog 40 #[.agg #[.int .i64 1,.int .i64 3,.slice a 3 3]] w (GV w 2 3 6 [0,1,2,1,2,0] 0):=by
 have h:=extend_c 1 3 a 3 3 [0,1,2] w h (by omega)
 rw[aw_ex.1,aw_ex.2] at h
 exact h.mono fun e w' h=>gv_of h (by decide)
theorem aC_re (a:Option Addr) (w:World) (h:IC w a 4 [1,0,0,1]):Calls Tryz.prog 83 #[.agg #[.int .i64 2,.int .i64 2,.slice a 4 4]] w (GV w 2 2 4 [0,1,1,0] 0):=by
 have h:=reduce_c 2 2 a 4 4 [1,0,0,1] w h (by omega)
 rw[if_pos aw_re.2,aw_re.1,aw_re.2] at h
 exact h.mono fun e w' h=>gv_of (cs:=[0,1,1,0]) h (by decide)
theorem aC_in (a:Option Addr) (c:Nat) (w:World) (h:IC w a 4 [0,1,1,0]):Calls Tryz.prog 74 #[.agg #[.int .i64 2,.int .i64 2,.slice a 4 c]] w fun e w'=>e = .returned (.tuple #[.int .i64 1,.int .i64 0])∧Below w.heap.size w w':=by
 have h:=inter_c 2 2 a 4 c [0,1,1,0] w h
 rw[aw_in.1,aw_in.2] at h
 exact h
theorem aC_ki (a:Option Addr) (w:World) (h:IC w a 4 [0,1,1,0]):Calls Tryz.prog 72 #[.agg #[.int .i64 2,.int .i64 2,.slice a 4 4]] w fun e w'=>∃g c,e = .returned (.tuple #[.slice (some ⟨g,0,none⟩) 4 c,.int .i64 0])∧w'.cell? ⟨g,2,none⟩=some (.string kS3)∧g<w'.heap.size∧Below w.heap.size w w':=by
 have h:=Kinds_c 2 2 a 4 4 [0,1,1,0] w h (by omega)
 refine h.mono fun e w' h=>?_
 obtain ⟨a,c,he,ho,hb⟩:=h
 have hk:kiL 2 2 [0,1,1,0]=[kS0,kS1,kS3,kS6]:=by
  unfold kiL
  rw[if_pos aw_ki.2]
  unfold kNames
  rw[show (2:Int).toNat=2 from rfl,aw_ki.1]
  rfl
 rw[hk] at he ho
 rw[aw_ki.2] at he
 obtain ⟨g,cap,x,hv,hx,hc,_,hgl,_⟩:=owns_free ho 2 (by decide)
 simp only[Value.slice.injEq,true_and] at hv
 obtain ⟨rfl,rfl⟩:=hv
 cases hx
 exact ⟨g,c,he,hc,hgl,hb⟩
theorem rsame_v (r C:Int) (a:Option Addr) (n c:Nat) (cs:List Int) (r2 C2:Int) (a2:Option Addr) (n2 c2:Nat) (ds:List Int) (w:World) (b:Bool) (hv:sameG r C cs r2 C2 ds=b) (h:IC w a n cs) (h2:IC w a2 n2 ds) :
  Calls Tryz.prog 43 #[.agg #[.int .i64 r,.int .i64 C,.slice a n c],.agg #[.int .i64 r2,.int .i64 C2,.slice a2 n2 c2]] w fun e w'=>e = .returned (.bool b)∧Below w.heap.size w w':=by
 rw[← hv];exact rsame_c r C a n c cs r2 C2 a2 n2 c2 ds w h h2
theorem same_v (a a':Option Addr) (n n' c c':Nat) (xs ys:List Int) (w:World) (b:Bool) (hv:sameB xs ys=b) (h:IC w a n xs) (h':IC w a' n' ys) :
  Calls Tryz.prog 38 #[.slice a n c,.slice a' n' c'] w fun e w'=>e = .returned (.bool b)∧Below w.heap.size w w':=by
 rw[← hv];exact same_c a a' n n' c c' xs ys w h h'
end
end Go.Proofs.YtmfpdakaeagdpaaGreat
