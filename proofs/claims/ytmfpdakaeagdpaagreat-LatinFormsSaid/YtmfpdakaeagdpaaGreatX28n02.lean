/- Texts O5 to J130 of this proof, in one file. -/
import Derived.Test.YtmfpdakaeagdpaaGreatW01
import Derived.Test.YtmfpdakaeagdpaaGreatW02
import Derived.Test.YtmfpdakaeagdpaaGreatW03
import Derived.Test.YtmfpdakaeagdpaaGreatW04
import Derived.Test.YtmfpdakaeagdpaaGreatW05
import Derived.Test.YtmfpdakaeagdpaaGreatW06
import Derived.Test.YtmfpdakaeagdpaaGreatW07
import Derived.Test.YtmfpdakaeagdpaaGreatW08
import Derived.Test.YtmfpdakaeagdpaaGreatW09
import Derived.Test.YtmfpdakaeagdpaaGreatW10
import Derived.Test.YtmfpdakaeagdpaaGreatW11
import Derived.Test.YtmfpdakaeagdpaaGreatW12
import Derived.Test.YtmfpdakaeagdpaaGreatW13
import Derived.Test.YtmfpdakaeagdpaaGreatW14
import Derived.Test.YtmfpdakaeagdpaaGreatW15
import Derived.Test.YtmfpdakaeagdpaaGreatW16
import Derived.Test.YtmfpdakaeagdpaaGreatW17
import Derived.Test.YtmfpdakaeagdpaaGreatW18
import Derived.Test.YtmfpdakaeagdpaaGreatW19
import Derived.Test.YtmfpdakaeagdpaaGreatW20
import Derived.Test.YtmfpdakaeagdpaaGreatW21
import Derived.Test.YtmfpdakaeagdpaaGreatW22
import Derived.Test.YtmfpdakaeagdpaaGreatW23
import Derived.Test.YtmfpdakaeagdpaaGreatW24
import Derived.Test.YtmfpdakaeagdpaaGreatW25
import Derived.Test.YtmfpdakaeagdpaaGreatW26
import Derived.Test.YtmfpdakaeagdpaaGreatW27
import Derived.Test.YtmfpdakaeagdpaaGreatX28n01
import Derived.Below
import Derived.BigFrame
import Derived.BigQuiet
import Derived.Deep.CutBlock
import Derived.Deep.CutRange
import Derived.Deep.LoopGhost
import Derived.Deep.Matrix
import Derived.Deep.Quiet
import Derived.Deep.RegionHeld3
import Derived.DeepKeys4
import Derived.KernelRfl
import Derived.Laws.BitsAllLaws
import Derived.Laws.EntriesVeiled
import Derived.Lib.AppendZeros
import Derived.Lib.Hide
import Derived.Lib.SlKeysI
import Derived.Lib.SliceRun
import Derived.Lib.SmallJoins
import Derived.LoopIn
import Derived.LoopNIn
import Derived.Maps.AppendAt
import Derived.Maps.OwnIn
import Derived.Maps.OwnSet
import Derived.OneCell
import Derived.OrdersHeld
import Derived.OrdersIn
import Derived.OwnWalkIn
import Derived.ProofKit
import Derived.RangeFuncBound
import Derived.RangeFuncBox
import Derived.RangeFuncCalls
import Derived.RangeFuncLeaves
import Derived.RangeFuncNested
import Derived.RangeFuncWrites
import Derived.Shelf.Abstract
import Derived.Shelf.SortM.Plain
import Derived.SizedLaws
import Derived.Still
import Derived.TacticsIn
import Derived.TacticsInMore
import Derived.Test.YtmfpdakaeagdpaaGreatProg
import Derived.WalkKit
import Derived.WalkLawsBesides
import Derived.WalkSpells
import Derived.WideKeyPair
namespace Go.Proofs.YtmfpdakaeagdpaaGreat
set_option maxRecDepth 100000
set_option maxHeartbeats 16000000
section
open Go Go.RowKit Go.ChangeShapes Go.WideShapes
theorem O5.cellsG:Tryz.prog.cellsOf 24=3:=by kernel_rfl
section
variable {H:Type} {enc:TypeId × Value→H} {w:World} {held:Bool}
theorem open_grid {base:Nat} {v:Value} {d:DataW H} {p:List MemPlace} (hv:Value.okWide Tryz.prog w .any base 24 v) (h:DataW.Trod enc Tryz.prog w 0 (fun _=>true) held 24 v d p) (hz:∀n∈d.weights Tryz.prog 24,n≤reachBytes) :
  ∃(r C:Int) (a:Option Addr) (n c:Nat) (P:List Int),v = .agg #[.int .i64 r,.int .i64 C,.slice a n c]∧n≤c∧IC w a n P:=by
 obtain ⟨cs,rfl,hsz⟩:=okWide_struct Tryz.underlying24 hv
 obtain ⟨c0,c1,c2,rfl⟩:=Go.Joins.array3 (hsz.trans O5.cellsG)
 obtain ⟨fuel,hf⟩:=h
 obtain ⟨y0,y1,y2,m,hx,_,h0,h1,h2⟩:=Go.Deep.trod_struct3 Tryz.underlying24 hf
 have h0':DataW.trod enc Tryz.prog w 0 (fun _=>true) held m 3 [c0]=some y0:=by simpa [Value.cells,O1.cells3] using h0
 have h1':DataW.trod enc Tryz.prog w 0 (fun _=>true) held m 3 [c1]=some y1:=by simpa [Value.cells,O1.cells3] using h1
 have h2':DataW.trod enc Tryz.prog w 0 (fun _=>true) held m 22 [c2]=some y2:=by simpa [Value.cells,O1.cells3,O1.cells25] using h2
 simp only[Prod.mk.injEq] at hx
 obtain ⟨rfl,rfl⟩:=hx
 have hwz:∀n,n∈y2.1.weights Tryz.prog 22→n≤reachBytes:=by
  intro n hn
  refine hz n ?_
  simp only[DataW.weights,Tryz.underlying24,List.map_cons,List.map_nil,DataW.weightsEach,List.mem_append]
  exact .inr (.inr (.inl hn))
 obtain ⟨r,e0,_,_⟩:=DataW.trod_int Tryz.underlying3 h0'
 obtain ⟨C,e1,_,_⟩:=DataW.trod_int Tryz.underlying3 h1'
 obtain ⟨a,n,c,P,rfl,hc,hP⟩:=O1.ints h2' hwz
 simp only[List.cons.injEq,and_true] at e0 e1
 exact ⟨r,C,a,n,c,P,by rw[e0,e1],hc,hP⟩
end
end
section
open Go Go.RowKit
attribute [local go_sem] over_cell
attribute [local go_sem] Oper.semAt_some
def cpE (p:List Int) (r:Int):Int:=firstL [whenV ((p.length:Int) != r) 2,whenV (permE p != 0) 14]
theorem ckperm_c (a:Option Addr) (n c:Nat) (p:List Int) (r:Int) (w:World) (h:IC w a n p) :
  Calls Tryz.prog 149 #[.slice a n c,.int .i64 r] w fun e w'=>e = .returned (.int .i64 (cpE p r))∧Below w.heap.size w w':=by
 have HC:=Lib.hid (aperm_c a n c p w h)
 have hl:=h.len
 have HF:Hid (firstL [whenV ((n:Int) != r) 2,whenV (permE p != 0) 14]=cpE p r):=by unfold Hid cpE;rw[hl]
 clear hl h
 generalize permE p=pe at HC HF
 generalize cpE p r=er at HF ⊢
 go_enter Tryz.func149,Tryz.ntmps149
 go_wp2_with (first|(go_at_call 195;refine HC.out.mono ?_;rintro _ w1 ⟨rfl,hb1⟩)|(go_at_call 93;refine (twhen_c _ _ _).mono ?_;rintro _ w2 ⟨rfl,rfl⟩)|(go_at_call 92;refine (tfirst_c _ _ _ _ _ (IC.new2 _ _ _ _)).mono ?_;rw[HF.out];rintro _ w3 ⟨rfl,rfl⟩)|fail)
 refine bodyPost_ret (v := .int .i64 er) ?_ rfl ⟨rfl,show Below w.heap.size w _ by (repeat (first|assumption|exact Below.refl _ _|refine keep_drew ?_|refine keep_alloc ?_ _|refine keep_trans ?_ (by assumption)))⟩
 simp[results,Tryz.f149,go_sem]
end
section
open Go Go.RowKit
attribute [local go_sem] over_cell
attribute [local go_sem] Oper.semAt_some
theorem ic_new4 (w:World) (x y z u:Int) (T:TypeId):IC (w.alloc (.cells #[.int .i64 x,.int .i64 y,.int .i64 z,.int .i64 u] T)) (some ⟨w.heap.size,0,none⟩) 4 [x,y,z,u] :=
 ⟨⟨rfl,by omega⟩,fun k hk=>⟨w.heap.size,0,rfl,by simp,by
  rw[box_cells]
  match k,hk with
  | 0,_=>rfl
  | 1,_=>rfl
  | 2,_=>rfl
  | 3,_=>rfl⟩⟩
theorem cpE_ok {p:List Int} {N:Nat} (h:cpE p (N:Int)=0):NumL N p:=by
 unfold cpE at h
 have h1:=(firstL_cons0 h).1
 have h2:=(firstL_cons0 (firstL_cons0 h).2).1
 have hl:p.length=N:=by
  by_cases e:(p.length:Int)=(N:Int)
  ·omega
  ·have:((p.length:Int) != (N:Int))=true:=by simpa using e
   rw[this] at h1
   exact absurd h1 (by decide)
 have hp:permE p=0:=by
  by_cases e:permE p=0
  ·exact e
  ·have:(permE p != 0)=true:=by simpa using e
   rw[this] at h2
   exact absurd h2 (by decide)
 refine ⟨hl,fun x hx=>?_⟩
 obtain ⟨i,hi,rfl⟩:=List.mem_iff_getElem.1 hx
 have:=(perm_ok hp).2.num i hi
 rw[List.getElem?_eq_getElem hi,Option.getD_some] at this
 omega
def ioF (r C:Int) (cs rows cols names:List Int):Int:=firstL [sqE 0 r C cs,cpE rows r,cpE cols r,cpE names r]
def ioL (r C:Int) (cs rows cols names:List Int):List Int:=if ioF r C cs rows cols names=0 then isoL (-1) r.toNat rows cols names cs else []
theorem isot_bad (r C:Int) (a:Option Addr) (m c:Nat) (cs:List Int) (ar:Option Addr) (nr cr:Nat) (rows:List Int) (ak:Option Addr) (nk ck:Nat) (cols:List Int) (an:Option Addr) (nn cn:Nat) (names:List Int) (w:World)
  (h:IC w a m cs) (hr:IC w ar nr rows) (hk:IC w ak nk cols) (hn:IC w an nn names) (er:Int) (he:ioF r C cs rows cols names=er) (h0:er≠0) :
  Calls Tryz.prog 84 #[.agg #[.int .i64 r,.int .i64 C,.slice a m c],.slice ar nr cr,.slice ak nk ck,.slice an nn cn] w (GridE w 0 0 [] er):=by
 have HK:=Lib.hid (fun W (hb:Below w.heap.size w W)=>latcheck_c r C a m c cs W (h.mono hb))
 have HP1:=Lib.hid (fun W (hb:Below w.heap.size w W)=>ckperm_c ar nr cr rows r W (hr.mono hb))
 have HP2:=Lib.hid (fun W (hb:Below w.heap.size w W)=>ckperm_c ak nk ck cols r W (hk.mono hb))
 have HP3:=Lib.hid (fun W (hb:Below w.heap.size w W)=>ckperm_c an nn cn names r W (hn.mono hb))
 have HF:Hid (firstL [sqE 0 r C cs,cpE rows r,cpE cols r,cpE names r]=er):=he
 have h0':(er != 0)=true:=by simpa using h0
 clear he h hr hk hn h0
 generalize cpE rows r=p1 at HP1 HF
 generalize cpE cols r=p2 at HP2 HF
 generalize cpE names r=p3 at HP3 HF
 go_enter Tryz.func84,Tryz.ntmps84
 go_upto_region 1 with fail
 have fsz:((w.alloc (.cells #[.int .i64 r,.int .i64 C,.slice a m c] 24)).alloc (.cells #[.int .i64 0,.int .i64 0,.slice none 0 0] 24)).heap.size=w.heap.size+2:=by simp only[World.size_alloc] <;> omega
 have fB:Below w.heap.size w ((w.alloc (.cells #[.int .i64 r,.int .i64 C,.slice a m c] 24)).alloc (.cells #[.int .i64 0,.int .i64 0,.slice none 0 0] 24)):=((Below.refl _ _).alloc (Nat.le_refl _) _).alloc (by simp only[World.size_alloc];omega) _
 have fq0:((w.alloc (.cells #[.int .i64 r,.int .i64 C,.slice a m c] 24)).alloc (.cells #[.int .i64 0,.int .i64 0,.slice none 0 0] 24)).heap[w.heap.size]?=some (.cells #[.int .i64 r,.int .i64 C,.slice a m c] 24 (0,0)):=by have h:=World.alloc_heap_new w (.cells #[.int .i64 r,.int .i64 C,.slice a m c] 24);exact (Below.heap_alloc _ _ _ (by simp only[World.size_alloc];omega)).trans (h)
 have fq1:((w.alloc (.cells #[.int .i64 r,.int .i64 C,.slice a m c] 24)).alloc (.cells #[.int .i64 0,.int .i64 0,.slice none 0 0] 24)).heap[w.heap.size+1]?=some (.cells #[.int .i64 0,.int .i64 0,.slice none 0 0] 24 (0,0)):=by have h:=World.alloc_heap_new (w.alloc (.cells #[.int .i64 r,.int .i64 C,.slice a m c] 24)) (.cells #[.int .i64 0,.int .i64 0,.slice none 0 0] 24);simp only[World.size_alloc] at h;exact h
 generalize ((w.alloc (.cells #[.int .i64 r,.int .i64 C,.slice a m c] 24)).alloc (.cells #[.int .i64 0,.int .i64 0,.slice none 0 0] 24))=W0 at fsz fB fq0 fq1 ⊢
 obtain ⟨x0,x1,x2,xl⟩:=c3_of fq0
 have Q0:=Lib.hid fq0
 have Q1:=Lib.hid fq1
 have HCB:=Lib.hid fB
 clear fsz fq0 fq1
 refine wp_region_S (fun w'=>∃u,w'=over (W0) u) [16,15,14,13] [(0,0),(0,2),(0,3),(0,4),(0,6),(0,7),(0,8),(0,10),(0,11),(0,12),(1,1),(1,5),(1,9),(2,13),(2,14),(2,15),(2,16)] (by kernel_rfl) (by kernel_rfl) (by exact ⟨_,below_over (by repeat (first|assumption|exact Below.refl _ _|refine keep_drew ?_|refine keep_alloc ?_ _|refine keep_trans ?_ (by assumption)))⟩) ?_
 dsimp only[pickOps,nthOp]
 repeat (first|(refine wpS_skip rfl (fun K hK=>?_);go_big_quiet_op;refine hK _ ?_;clear hK K)|(refine wpS_quiet rfl rfl (fun K hK=>?_);go_big_quiet_op;refine hK _ ?_;clear hK K)|(refine wpS_loud ?_;go_wp2_with (first|(go_at_call 58;refine (HK.out _ (keep_trans fB (by (repeat (first|assumption|exact Below.refl _ _|refine keep_drew ?_|refine keep_alloc ?_ _|refine keep_trans ?_ (by assumption)))))).mono ?_;rintro _ w1 ⟨rfl,hb1⟩)|(go_at_call 149;with_reducible refine (HP1.out _ (keep_trans fB (by (repeat (first|assumption|exact Below.refl _ _|refine keep_drew ?_|refine keep_alloc ?_ _|refine keep_trans ?_ (by assumption)))))).mono ?_;rintro _ w2 ⟨rfl,hb2⟩)|(go_at_call 149;with_reducible refine (HP2.out _ (keep_trans fB (by (repeat (first|assumption|exact Below.refl _ _|refine keep_drew ?_|refine keep_alloc ?_ _|refine keep_trans ?_ (by assumption)))))).mono ?_;rintro _ w3 ⟨rfl,hb3⟩)|(go_at_call 149;with_reducible refine (HP3.out _ (keep_trans fB (by (repeat (first|assumption|exact Below.refl _ _|refine keep_drew ?_|refine keep_alloc ?_ _|refine keep_trans ?_ (by assumption)))))).mono ?_;rintro _ w4 ⟨rfl,hb4⟩)|(go_at_call 92;refine (tfirst_c _ _ _ _ _ (ic_new4 _ _ _ _ _ _)).mono ?_;rw[HF.out];rintro _ w5 ⟨rfl,rfl⟩)|fail);refine ⟨?_,?_⟩;focus (exact ⟨_,below_over (by repeat (first|assumption|exact Below.refl _ _|refine keep_drew ?_|refine keep_alloc ?_ _|refine keep_trans ?_ (by assumption)))⟩)))
 refine wpS_late _ _ _ rfl ?_
 dsimp only[List.map]
 go_wp2_with (first|(go_at_call 58;refine (HK.out _ (keep_trans fB (by (repeat (first|assumption|exact Below.refl _ _|refine keep_drew ?_|refine keep_alloc ?_ _|refine keep_trans ?_ (by assumption)))))).mono ?_;rintro _ w1 ⟨rfl,hb1⟩)|(go_at_call 149;with_reducible refine (HP1.out _ (keep_trans fB (by (repeat (first|assumption|exact Below.refl _ _|refine keep_drew ?_|refine keep_alloc ?_ _|refine keep_trans ?_ (by assumption)))))).mono ?_;rintro _ w2 ⟨rfl,hb2⟩)|(go_at_call 149;with_reducible refine (HP2.out _ (keep_trans fB (by (repeat (first|assumption|exact Below.refl _ _|refine keep_drew ?_|refine keep_alloc ?_ _|refine keep_trans ?_ (by assumption)))))).mono ?_;rintro _ w3 ⟨rfl,hb3⟩)|(go_at_call 149;with_reducible refine (HP3.out _ (keep_trans fB (by (repeat (first|assumption|exact Below.refl _ _|refine keep_drew ?_|refine keep_alloc ?_ _|refine keep_trans ?_ (by assumption)))))).mono ?_;rintro _ w4 ⟨rfl,hb4⟩)|(go_at_call 92;refine (tfirst_c _ _ _ _ _ (ic_new4 _ _ _ _ _ _)).mono ?_;rw[HF.out];rintro _ w5 ⟨rfl,rfl⟩)|fail)
 refine NoPanic.normal ?_
 have hB2:Below W0.heap.size W0 (w4.alloc (.cells #[.int .i64 (sqE 0 r C cs),.int .i64 p1,.int .i64 p2,.int .i64 p3] 27)):=by (repeat (first|assumption|exact Below.refl _ _|refine keep_drew ?_|refine keep_alloc ?_ _|refine keep_trans ?_ (by assumption)))
 have HB2:=Lib.hid (keep_trans HCB.out hB2)
 have P0:=Lib.hid (keepq hB2 Q0.out)
 have P1:=Lib.hid (keepq hB2 Q1.out)
 clear hB2 hb1 hb2 hb3 hb4 fB x0 x1 x2 xl
 generalize (w4.alloc (.cells #[.int .i64 (sqE 0 r C cs),.int .i64 p1,.int .i64 p2,.int .i64 p3] 27))=W2 at HB2 P0 P1 ⊢
 obtain ⟨x0,x1,x2,xl⟩:=c3_of P0.out
 obtain ⟨y0,y1,y2,yl⟩:=c3_of P1.out
 obtain ⟨yf0,yf1,yf2⟩:=f3_of P1.out
 go_wp2_with fail
 have g3:=st3_q (x0 := .int .i64 0) (x1 := .int .i64 0) (x2 := .slice none 0 0) P1.out
 have hb3:=st3_below (x0 := .int .i64 0) (x1 := .int .i64 0) (x2 := .slice none 0 0) (b:=w.heap.size+1) HB2.out (by omega)
 obtain ⟨z0,z1,z2,zl⟩:=c3_of g3
 refine bodyPost_ret (v := .tuple #[.agg #[.int .i64 0,.int .i64 0,.slice none 0 0],.int .i64 (er)]) ?_ rfl ⟨none,0,rfl,World.ownsRow_nil _ _ _ _,(by first|exact hb3|exact hb3.drew)⟩
 simp[results,Tryz.f84,go_sem,z0,z1,z2]
theorem isot_ok (N:Nat) (a:Option Addr) (m c:Nat) (cs:List Int) (ar:Option Addr) (nr cr:Nat) (rows:List Int) (ak:Option Addr) (nk ck:Nat) (cols:List Int) (an:Option Addr) (nn cn:Nat) (names:List Int) (w:World)
  (h:IC w a m cs) (hr:IC w ar nr rows) (hk:IC w ak nk cols) (hn:IC w an nn names) (L:Latin N cs) (he:ioF (N:Int) (N:Int) cs rows cols names=0) (es:List Int) (hes:es=isoL (-1) N rows cols names cs) :
  Calls Tryz.prog 84 #[.agg #[.int .i64 (N:Int),.int .i64 (N:Int),.slice a m c],.slice ar nr cr,.slice ak nk ck,.slice an nn cn] w (GridE w (N:Int) (N:Int) es 0):=by
 have HK:=Lib.hid (fun W (hb:Below w.heap.size w W)=>latcheck_c (N:Int) (N:Int) a m c cs W (h.mono hb))
 have HP1:=Lib.hid (fun W (hb:Below w.heap.size w W)=>ckperm_c ar nr cr rows (N:Int) W (hr.mono hb))
 have HP2:=Lib.hid (fun W (hb:Below w.heap.size w W)=>ckperm_c ak nk ck cols (N:Int) W (hk.mono hb))
 have HP3:=Lib.hid (fun W (hb:Below w.heap.size w W)=>ckperm_c an nn cn names (N:Int) W (hn.mono hb))
 have HF:Hid (firstL [sqE 0 (N:Int) (N:Int) cs,cpE rows (N:Int),cpE cols (N:Int),cpE names (N:Int)]=0):=he
 have he1:=(firstL_cons0 he).2
 have n1:=cpE_ok (firstL_cons0 he1).1
 have n2:=cpE_ok (firstL_cons0 (firstL_cons0 he1).2).1
 have n3:=cpE_ok (firstL_cons0 (firstL_cons0 (firstL_cons0 he1).2).2).1
 have HIS:Hid (∀W,Below w.heap.size w W→Calls Tryz.prog 150 #[.agg #[.int .i64 (N:Int),.int .i64 (N:Int),.slice a m c],.slice ar nr cr,.slice ak nk ck,.slice an nn cn] W (GridM W (N:Int) (N:Int) es)):=fun W hb=>by
  have hrl:nr=N:=by rw[← hr.len];exact n1.len
  have hkl:nk=N:=by rw[← hk.len];exact n2.len
  have hnl:nn=N:=by rw[← hn.len];exact n3.len
  subst hrl
  rw[hkl,hnl,hes]
  exact isotope_c nr a m c cs ar cr rows ak ck cols an cn names W (h.mono hb) L.sq (hr.mono hb) n1 (by rw[← hkl];exact hk.mono hb) n2 (by rw[← hnl];exact hn.mono hb) n3
 clear he he1 h hr hk hn n1 n2 n3 L hes
 generalize cpE rows (N:Int)=p1 at HP1 HF
 generalize cpE cols (N:Int)=p2 at HP2 HF
 generalize cpE names (N:Int)=p3 at HP3 HF
 go_enter Tryz.func84,Tryz.ntmps84
 go_upto_region 1 with fail
 have fsz:((w.alloc (.cells #[.int .i64 (N:Int),.int .i64 (N:Int),.slice a m c] 24)).alloc (.cells #[.int .i64 0,.int .i64 0,.slice none 0 0] 24)).heap.size=w.heap.size+2:=by simp only[World.size_alloc] <;> omega
 have fB:Below w.heap.size w ((w.alloc (.cells #[.int .i64 (N:Int),.int .i64 (N:Int),.slice a m c] 24)).alloc (.cells #[.int .i64 0,.int .i64 0,.slice none 0 0] 24)):=((Below.refl _ _).alloc (Nat.le_refl _) _).alloc (by simp only[World.size_alloc];omega) _
 have fq0:((w.alloc (.cells #[.int .i64 (N:Int),.int .i64 (N:Int),.slice a m c] 24)).alloc (.cells #[.int .i64 0,.int .i64 0,.slice none 0 0] 24)).heap[w.heap.size]?=some (.cells #[.int .i64 (N:Int),.int .i64 (N:Int),.slice a m c] 24 (0,0)):=by have h:=World.alloc_heap_new w (.cells #[.int .i64 (N:Int),.int .i64 (N:Int),.slice a m c] 24);exact (Below.heap_alloc _ _ _ (by simp only[World.size_alloc];omega)).trans (h)
 have fq1:((w.alloc (.cells #[.int .i64 (N:Int),.int .i64 (N:Int),.slice a m c] 24)).alloc (.cells #[.int .i64 0,.int .i64 0,.slice none 0 0] 24)).heap[w.heap.size+1]?=some (.cells #[.int .i64 0,.int .i64 0,.slice none 0 0] 24 (0,0)):=by have h:=World.alloc_heap_new (w.alloc (.cells #[.int .i64 (N:Int),.int .i64 (N:Int),.slice a m c] 24)) (.cells #[.int .i64 0,.int .i64 0,.slice none 0 0] 24);simp only[World.size_alloc] at h;exact h
 generalize ((w.alloc (.cells #[.int .i64 (N:Int),.int .i64 (N:Int),.slice a m c] 24)).alloc (.cells #[.int .i64 0,.int .i64 0,.slice none 0 0] 24))=W0 at fsz fB fq0 fq1 ⊢
 obtain ⟨x0,x1,x2,xl⟩:=c3_of fq0
 have Q0:=Lib.hid fq0
 have Q1:=Lib.hid fq1
 have HCB:=Lib.hid fB
 clear fsz fq0 fq1
 refine wp_region_S (fun w'=>∃u,w'=over (W0) u) [16,15,14,13] [(0,0),(0,2),(0,3),(0,4),(0,6),(0,7),(0,8),(0,10),(0,11),(0,12),(1,1),(1,5),(1,9),(2,13),(2,14),(2,15),(2,16)] (by kernel_rfl) (by kernel_rfl) (by exact ⟨_,below_over (by repeat (first|assumption|exact Below.refl _ _|refine keep_drew ?_|refine keep_alloc ?_ _|refine keep_trans ?_ (by assumption)))⟩) ?_
 dsimp only[pickOps,nthOp]
 repeat (first|(refine wpS_skip rfl (fun K hK=>?_);go_big_quiet_op;refine hK _ ?_;clear hK K)|(refine wpS_quiet rfl rfl (fun K hK=>?_);go_big_quiet_op;refine hK _ ?_;clear hK K)|(refine wpS_loud ?_;go_wp2_with (first|(go_at_call 58;refine (HK.out _ (keep_trans fB (by (repeat (first|assumption|exact Below.refl _ _|refine keep_drew ?_|refine keep_alloc ?_ _|refine keep_trans ?_ (by assumption)))))).mono ?_;rintro _ w1 ⟨rfl,hb1⟩)|(go_at_call 149;with_reducible refine (HP1.out _ (keep_trans fB (by (repeat (first|assumption|exact Below.refl _ _|refine keep_drew ?_|refine keep_alloc ?_ _|refine keep_trans ?_ (by assumption)))))).mono ?_;rintro _ w2 ⟨rfl,hb2⟩)|(go_at_call 149;with_reducible refine (HP2.out _ (keep_trans fB (by (repeat (first|assumption|exact Below.refl _ _|refine keep_drew ?_|refine keep_alloc ?_ _|refine keep_trans ?_ (by assumption)))))).mono ?_;rintro _ w3 ⟨rfl,hb3⟩)|(go_at_call 149;with_reducible refine (HP3.out _ (keep_trans fB (by (repeat (first|assumption|exact Below.refl _ _|refine keep_drew ?_|refine keep_alloc ?_ _|refine keep_trans ?_ (by assumption)))))).mono ?_;rintro _ w4 ⟨rfl,hb4⟩)|(go_at_call 92;refine (tfirst_c _ _ _ _ _ (ic_new4 _ _ _ _ _ _)).mono ?_;rw[HF.out];rintro _ w5 ⟨rfl,rfl⟩)|fail);refine ⟨?_,?_⟩;focus (exact ⟨_,below_over (by repeat (first|assumption|exact Below.refl _ _|refine keep_drew ?_|refine keep_alloc ?_ _|refine keep_trans ?_ (by assumption)))⟩)))
 refine wpS_late _ _ _ rfl ?_
 dsimp only[List.map]
 go_wp2_with (first|(go_at_call 58;refine (HK.out _ (keep_trans fB (by (repeat (first|assumption|exact Below.refl _ _|refine keep_drew ?_|refine keep_alloc ?_ _|refine keep_trans ?_ (by assumption)))))).mono ?_;rintro _ w1 ⟨rfl,hb1⟩)|(go_at_call 149;with_reducible refine (HP1.out _ (keep_trans fB (by (repeat (first|assumption|exact Below.refl _ _|refine keep_drew ?_|refine keep_alloc ?_ _|refine keep_trans ?_ (by assumption)))))).mono ?_;rintro _ w2 ⟨rfl,hb2⟩)|(go_at_call 149;with_reducible refine (HP2.out _ (keep_trans fB (by (repeat (first|assumption|exact Below.refl _ _|refine keep_drew ?_|refine keep_alloc ?_ _|refine keep_trans ?_ (by assumption)))))).mono ?_;rintro _ w3 ⟨rfl,hb3⟩)|(go_at_call 149;with_reducible refine (HP3.out _ (keep_trans fB (by (repeat (first|assumption|exact Below.refl _ _|refine keep_drew ?_|refine keep_alloc ?_ _|refine keep_trans ?_ (by assumption)))))).mono ?_;rintro _ w4 ⟨rfl,hb4⟩)|(go_at_call 92;refine (tfirst_c _ _ _ _ _ (ic_new4 _ _ _ _ _ _)).mono ?_;rw[HF.out];rintro _ w5 ⟨rfl,rfl⟩)|fail)
 refine NoPanic.normal ?_
 have hB2:Below W0.heap.size W0 (w4.alloc (.cells #[.int .i64 (sqE 0 (N:Int) (N:Int) cs),.int .i64 p1,.int .i64 p2,.int .i64 p3] 27)):=by (repeat (first|assumption|exact Below.refl _ _|refine keep_drew ?_|refine keep_alloc ?_ _|refine keep_trans ?_ (by assumption)))
 have HB2:=Lib.hid (keep_trans HCB.out hB2)
 have P0:=Lib.hid (keepq hB2 Q0.out)
 have P1:=Lib.hid (keepq hB2 Q1.out)
 clear hB2 hb1 hb2 hb3 hb4 fB x0 x1 x2 xl
 generalize (w4.alloc (.cells #[.int .i64 (sqE 0 (N:Int) (N:Int) cs),.int .i64 p1,.int .i64 p2,.int .i64 p3] 27))=W2 at HB2 P0 P1 ⊢
 obtain ⟨x0,x1,x2,xl⟩:=c3_of P0.out
 have hl1:=q_lt P1.out
 go_wp2_with (first|(go_at_call 150;refine (HIS.out _ HB2.out).mono ?_;rintro _ w6 ⟨a2,c2,rfl,hown2,hb6⟩;have g1:=keepq hb6 P1.out;obtain ⟨y0,y1,y2,yl⟩:=c3_of g1;obtain ⟨yf0,yf1,yf2⟩:=f3_of g1)|fail)
 have hne:(Value.slice a2 (es).length c2).ownBlock≠some (w.heap.size+1):=fun e=>absurd (hown2.lt _ e).1 (by omega)
 have g3:=st3_q (x0 := .int .i64 (N:Int)) (x1 := .int .i64 (N:Int)) (x2 := .slice a2 (es).length c2) g1
 have hown3:=st3_own (x0 := .int .i64 (N:Int)) (x1 := .int .i64 (N:Int)) (x2 := .slice a2 (es).length c2) hown2 hne
 have hb3:=st3_below (x0 := .int .i64 (N:Int)) (x1 := .int .i64 (N:Int)) (x2 := .slice a2 (es).length c2) (b:=w.heap.size+1) (keep_trans HB2.out hb6) (by omega)
 obtain ⟨z0,z1,z2,zl⟩:=c3_of g3
 refine bodyPost_ret (v := .tuple #[.agg #[.int .i64 (N:Int),.int .i64 (N:Int),.slice a2 (es).length c2],.int .i64 0]) ?_ rfl ⟨_,_,rfl,owns_base hown3 HB2.out.size,(by first|exact hb3|exact hb3.drew)⟩
 simp[results,Tryz.f84,go_sem,z0,z1,z2]
theorem isot_c (r C:Int) (a:Option Addr) (m c:Nat) (cs:List Int) (ar:Option Addr) (nr cr:Nat) (rows:List Int) (ak:Option Addr) (nk ck:Nat) (cols:List Int) (an:Option Addr) (nn cn:Nat) (names:List Int) (w:World)
  (h:IC w a m cs) (hr:IC w ar nr rows) (hk:IC w ak nk cols) (hn:IC w an nn names) :
  Calls Tryz.prog 84 #[.agg #[.int .i64 r,.int .i64 C,.slice a m c],.slice ar nr cr,.slice ak nk ck,.slice an nn cn] w (GridE w (if ioF r C cs rows cols names=0 then r else 0) (if ioF r C cs rows cols names=0 then r else 0) (ioL r C cs rows cols names) (ioF r C cs rows cols names)):=by
 by_cases h0:ioF r C cs rows cols names=0
 ·have h1:=h0
  unfold ioF at h1
  obtain ⟨N,rfl,rfl,L⟩:=sqE_ok (firstL_cons0 h1).1
  have hl:ioL (N:Int) (N:Int) cs rows cols names=isoL (-1) N rows cols names cs:=if_pos h0
  rw[if_pos h0,h0]
  exact isot_ok N a m c cs ar nr cr rows ak nk ck cols an nn cn names w h hr hk hn L h0 _ hl
 ·have hl:ioL r C cs rows cols names=[]:=if_neg h0
  rw[if_neg h0,hl]
  exact isot_bad r C a m c cs ar nr cr rows ak nk ck cols an nn cn names w h hr hk hn _ rfl h0
end
section
open Go Go.RowKit
attribute [local go_sem] over_cell
attribute [local go_sem] Oper.semAt_some
theorem lgreat_c (r C:Int) (a:Option Addr) (m c:Nat) (k:Int) (w:World):Calls Tryz.prog 19 #[.agg #[.int .i64 r,.int .i64 C,.slice a m c],.int .i64 k] w fun e w'=>e = .returned (.bool (decide (k<(m:Int))))∧Below w.heap.size w w':=by
 go_enter Tryz.func19,Tryz.ntmps19
 go_upto_region 1 with fail
 have fsz:(w.alloc (.cells #[.int .i64 r,.int .i64 C,.slice a m c] 24)).heap.size=w.heap.size+1:=by simp only[World.size_alloc]
 have fB:Below w.heap.size w (w.alloc (.cells #[.int .i64 r,.int .i64 C,.slice a m c] 24)):=(Below.refl _ _).alloc (Nat.le_refl _) _
 have fq0:(w.alloc (.cells #[.int .i64 r,.int .i64 C,.slice a m c] 24)).heap[w.heap.size]?=some (.cells #[.int .i64 r,.int .i64 C,.slice a m c] 24 (0,0)):=by have h:=World.alloc_heap_new w (.cells #[.int .i64 r,.int .i64 C,.slice a m c] 24);exact h
 generalize (w.alloc (.cells #[.int .i64 r,.int .i64 C,.slice a m c] 24))=W0 at fsz fB fq0 ⊢
 obtain ⟨x0,x1,x2,xl⟩:=c3_of fq0
 clear fq0 fsz
 go_wp2_with fail
 refine bodyPost_ret (v := .bool (decide (k<(m:Int)))) ?_ rfl ⟨rfl,fB⟩
 simp[results,Tryz.f19,go_sem]
def madeB (r C:Int) (cs:List Int) (er:Int) (r2 C2:Int) (ds:List Int) (bad:Int):Bool:=if bad≠0 then sameG r C cs 0 0 []&&(er==bad) else (er==0)&&sameG r C cs r2 C2 ds
theorem lmade_c (r C:Int) (a:Option Addr) (n c:Nat) (cs:List Int) (er:Int) (r2 C2:Int) (a2:Option Addr) (n2 c2:Nat) (ds:List Int) (bad:Int) (w:World) (h:IC w a n cs) (h2:IC w a2 n2 ds) :
  Calls Tryz.prog 24 #[.agg #[.int .i64 r,.int .i64 C,.slice a n c],.int .i64 er,.agg #[.int .i64 r2,.int .i64 C2,.slice a2 n2 c2],.int .i64 bad] w fun e w'=>e = .returned (.bool (madeB r C cs er r2 C2 ds bad))∧Below w.heap.size w w':=by
 have H0:=Lib.hid (fun W (hb:Below w.heap.size w W)=>rsame_c r C a n c cs 0 0 none 0 0 [] W (h.mono hb) ⟨⟨rfl,by omega⟩,fun k hk=>absurd hk (by omega)⟩)
 have H1:=Lib.hid (fun W (hb:Below w.heap.size w W)=>rsame_c r C a n c cs r2 C2 a2 n2 c2 ds W (h.mono hb) (h2.mono hb))
 have HD:Hid (madeB r C cs er r2 C2 ds bad=if bad≠0 then sameG r C cs 0 0 []&&(er==bad) else (er==0)&&sameG r C cs r2 C2 ds):=rfl
 generalize sameG r C cs 0 0 []=b0 at H0 HD
 generalize sameG r C cs r2 C2 ds=b1 at H1 HD
 generalize madeB r C cs er r2 C2 ds bad=R at HD ⊢
 clear h h2
 by_cases hb:bad=0
 ·have HR:Hid (R=((er==0)&&b1)):=by unfold Hid;rw[HD.out,if_neg (by simpa using hb)]
  have hb':(bad != 0)=false:=by simpa using hb
  obtain ⟨b,e1⟩:∃b,(er==0)=b:=⟨_,rfl⟩
  rw[e1] at HR
  clear hb HD
  cases b with
  | false =>
   go_enter Tryz.func24,Tryz.ntmps24
   go_upto_region 1 with fail
   have fsz:((w.alloc (.cells #[.int .i64 r,.int .i64 C,.slice a n c] 24)).alloc (.cells #[.int .i64 r2,.int .i64 C2,.slice a2 n2 c2] 24)).heap.size=w.heap.size+2:=by simp only[World.size_alloc] <;> omega
   have fB:Below w.heap.size w ((w.alloc (.cells #[.int .i64 r,.int .i64 C,.slice a n c] 24)).alloc (.cells #[.int .i64 r2,.int .i64 C2,.slice a2 n2 c2] 24)):=((Below.refl _ _).alloc (Nat.le_refl _) _).alloc (by simp only[World.size_alloc];omega) _
   have fq0:((w.alloc (.cells #[.int .i64 r,.int .i64 C,.slice a n c] 24)).alloc (.cells #[.int .i64 r2,.int .i64 C2,.slice a2 n2 c2] 24)).heap[w.heap.size]?=some (.cells #[.int .i64 r,.int .i64 C,.slice a n c] 24 (0,0)):=by have h:=World.alloc_heap_new w (.cells #[.int .i64 r,.int .i64 C,.slice a n c] 24);exact (Below.heap_alloc _ _ _ (by simp only[World.size_alloc];omega)).trans (h)
   have fq1:((w.alloc (.cells #[.int .i64 r,.int .i64 C,.slice a n c] 24)).alloc (.cells #[.int .i64 r2,.int .i64 C2,.slice a2 n2 c2] 24)).heap[w.heap.size+1]?=some (.cells #[.int .i64 r2,.int .i64 C2,.slice a2 n2 c2] 24 (0,0)):=by have h:=World.alloc_heap_new (w.alloc (.cells #[.int .i64 r,.int .i64 C,.slice a n c] 24)) (.cells #[.int .i64 r2,.int .i64 C2,.slice a2 n2 c2] 24);simp only[World.size_alloc] at h;exact h
   generalize ((w.alloc (.cells #[.int .i64 r,.int .i64 C,.slice a n c] 24)).alloc (.cells #[.int .i64 r2,.int .i64 C2,.slice a2 n2 c2] 24))=W0 at fsz fB fq0 fq1 ⊢
   obtain ⟨x0,x1,x2,xl⟩:=c3_of fq0
   obtain ⟨y0,y1,y2,yl⟩:=c3_of fq1
   clear fq0 fq1 fsz
   go_wp2_with fail
   refine bodyPost_ret (v := .bool false) ?_ rfl ⟨by rw[HR.out];rfl,fB⟩
   simp[results,Tryz.f24,go_sem]
  | true =>
   go_enter Tryz.func24,Tryz.ntmps24
   go_upto_region 1 with fail
   have fsz:((w.alloc (.cells #[.int .i64 r,.int .i64 C,.slice a n c] 24)).alloc (.cells #[.int .i64 r2,.int .i64 C2,.slice a2 n2 c2] 24)).heap.size=w.heap.size+2:=by simp only[World.size_alloc] <;> omega
   have fB:Below w.heap.size w ((w.alloc (.cells #[.int .i64 r,.int .i64 C,.slice a n c] 24)).alloc (.cells #[.int .i64 r2,.int .i64 C2,.slice a2 n2 c2] 24)):=((Below.refl _ _).alloc (Nat.le_refl _) _).alloc (by simp only[World.size_alloc];omega) _
   have fq0:((w.alloc (.cells #[.int .i64 r,.int .i64 C,.slice a n c] 24)).alloc (.cells #[.int .i64 r2,.int .i64 C2,.slice a2 n2 c2] 24)).heap[w.heap.size]?=some (.cells #[.int .i64 r,.int .i64 C,.slice a n c] 24 (0,0)):=by have h:=World.alloc_heap_new w (.cells #[.int .i64 r,.int .i64 C,.slice a n c] 24);exact (Below.heap_alloc _ _ _ (by simp only[World.size_alloc];omega)).trans (h)
   have fq1:((w.alloc (.cells #[.int .i64 r,.int .i64 C,.slice a n c] 24)).alloc (.cells #[.int .i64 r2,.int .i64 C2,.slice a2 n2 c2] 24)).heap[w.heap.size+1]?=some (.cells #[.int .i64 r2,.int .i64 C2,.slice a2 n2 c2] 24 (0,0)):=by have h:=World.alloc_heap_new (w.alloc (.cells #[.int .i64 r,.int .i64 C,.slice a n c] 24)) (.cells #[.int .i64 r2,.int .i64 C2,.slice a2 n2 c2] 24);simp only[World.size_alloc] at h;exact h
   generalize ((w.alloc (.cells #[.int .i64 r,.int .i64 C,.slice a n c] 24)).alloc (.cells #[.int .i64 r2,.int .i64 C2,.slice a2 n2 c2] 24))=W0 at fsz fB fq0 fq1 ⊢
   obtain ⟨x0,x1,x2,xl⟩:=c3_of fq0
   obtain ⟨y0,y1,y2,yl⟩:=c3_of fq1
   clear fq0 fq1 fsz
   go_wp2_with (first|(go_at_call 43;refine (H1.out _ (by (repeat (first|assumption|exact Below.refl _ _|refine keep_drew ?_|refine keep_alloc ?_ _|refine keep_trans ?_ (by assumption))))).mono ?_;rintro _ w2 ⟨rfl,hb2⟩)|fail)
   refine bodyPost_ret (v := .bool b1) ?_ rfl ⟨by rw[HR.out];rfl,keep_trans fB hb2⟩
   simp[results,Tryz.f24,go_sem]
 ·have HR:Hid (R=(b0&&(er==bad))):=by unfold Hid;rw[HD.out,if_pos hb]
  have hb':(bad != 0)=true:=by simpa using hb
  clear hb HD
  cases b0 with
  | false =>
   go_enter Tryz.func24,Tryz.ntmps24
   go_upto_region 1 with fail
   have fsz:((w.alloc (.cells #[.int .i64 r,.int .i64 C,.slice a n c] 24)).alloc (.cells #[.int .i64 r2,.int .i64 C2,.slice a2 n2 c2] 24)).heap.size=w.heap.size+2:=by simp only[World.size_alloc] <;> omega
   have fB:Below w.heap.size w ((w.alloc (.cells #[.int .i64 r,.int .i64 C,.slice a n c] 24)).alloc (.cells #[.int .i64 r2,.int .i64 C2,.slice a2 n2 c2] 24)):=((Below.refl _ _).alloc (Nat.le_refl _) _).alloc (by simp only[World.size_alloc];omega) _
   have fq0:((w.alloc (.cells #[.int .i64 r,.int .i64 C,.slice a n c] 24)).alloc (.cells #[.int .i64 r2,.int .i64 C2,.slice a2 n2 c2] 24)).heap[w.heap.size]?=some (.cells #[.int .i64 r,.int .i64 C,.slice a n c] 24 (0,0)):=by have h:=World.alloc_heap_new w (.cells #[.int .i64 r,.int .i64 C,.slice a n c] 24);exact (Below.heap_alloc _ _ _ (by simp only[World.size_alloc];omega)).trans (h)
   have fq1:((w.alloc (.cells #[.int .i64 r,.int .i64 C,.slice a n c] 24)).alloc (.cells #[.int .i64 r2,.int .i64 C2,.slice a2 n2 c2] 24)).heap[w.heap.size+1]?=some (.cells #[.int .i64 r2,.int .i64 C2,.slice a2 n2 c2] 24 (0,0)):=by have h:=World.alloc_heap_new (w.alloc (.cells #[.int .i64 r,.int .i64 C,.slice a n c] 24)) (.cells #[.int .i64 r2,.int .i64 C2,.slice a2 n2 c2] 24);simp only[World.size_alloc] at h;exact h
   generalize ((w.alloc (.cells #[.int .i64 r,.int .i64 C,.slice a n c] 24)).alloc (.cells #[.int .i64 r2,.int .i64 C2,.slice a2 n2 c2] 24))=W0 at fsz fB fq0 fq1 ⊢
   obtain ⟨x0,x1,x2,xl⟩:=c3_of fq0
   clear fq0 fq1 fsz
   go_wp2_with (first|(go_at_call 43;refine (H0.out _ (by (repeat (first|assumption|exact Below.refl _ _|refine keep_drew ?_|refine keep_alloc ?_ _|refine keep_trans ?_ (by assumption))))).mono ?_;rintro _ w2 ⟨rfl,hb2⟩)|fail)
   refine bodyPost_ret (v := .bool false) ?_ rfl ⟨by rw[HR.out];rfl,keep_trans fB hb2⟩
   simp[results,Tryz.f24,go_sem]
  | true =>
   go_enter Tryz.func24,Tryz.ntmps24
   go_upto_region 1 with fail
   have fsz:((w.alloc (.cells #[.int .i64 r,.int .i64 C,.slice a n c] 24)).alloc (.cells #[.int .i64 r2,.int .i64 C2,.slice a2 n2 c2] 24)).heap.size=w.heap.size+2:=by simp only[World.size_alloc] <;> omega
   have fB:Below w.heap.size w ((w.alloc (.cells #[.int .i64 r,.int .i64 C,.slice a n c] 24)).alloc (.cells #[.int .i64 r2,.int .i64 C2,.slice a2 n2 c2] 24)):=((Below.refl _ _).alloc (Nat.le_refl _) _).alloc (by simp only[World.size_alloc];omega) _
   have fq0:((w.alloc (.cells #[.int .i64 r,.int .i64 C,.slice a n c] 24)).alloc (.cells #[.int .i64 r2,.int .i64 C2,.slice a2 n2 c2] 24)).heap[w.heap.size]?=some (.cells #[.int .i64 r,.int .i64 C,.slice a n c] 24 (0,0)):=by have h:=World.alloc_heap_new w (.cells #[.int .i64 r,.int .i64 C,.slice a n c] 24);exact (Below.heap_alloc _ _ _ (by simp only[World.size_alloc];omega)).trans (h)
   have fq1:((w.alloc (.cells #[.int .i64 r,.int .i64 C,.slice a n c] 24)).alloc (.cells #[.int .i64 r2,.int .i64 C2,.slice a2 n2 c2] 24)).heap[w.heap.size+1]?=some (.cells #[.int .i64 r2,.int .i64 C2,.slice a2 n2 c2] 24 (0,0)):=by have h:=World.alloc_heap_new (w.alloc (.cells #[.int .i64 r,.int .i64 C,.slice a n c] 24)) (.cells #[.int .i64 r2,.int .i64 C2,.slice a2 n2 c2] 24);simp only[World.size_alloc] at h;exact h
   generalize ((w.alloc (.cells #[.int .i64 r,.int .i64 C,.slice a n c] 24)).alloc (.cells #[.int .i64 r2,.int .i64 C2,.slice a2 n2 c2] 24))=W0 at fsz fB fq0 fq1 ⊢
   obtain ⟨x0,x1,x2,xl⟩:=c3_of fq0
   clear fq0 fq1 fsz
   go_wp2_with (first|(go_at_call 43;refine (H0.out _ (by (repeat (first|assumption|exact Below.refl _ _|refine keep_drew ?_|refine keep_alloc ?_ _|refine keep_trans ?_ (by assumption))))).mono ?_;rintro _ w2 ⟨rfl,hb2⟩)|fail)
   refine bodyPost_ret (v := .bool (er==bad)) ?_ rfl ⟨by rw[HR.out];rfl,keep_trans fB hb2⟩
   simp[results,Tryz.f24,go_sem]
end
section
open Go Go.RowKit
attribute [local go_sem] over_cell
attribute [local go_sem] Oper.semAt_some
theorem lmade_v (r C:Int) (a:Option Addr) (n c:Nat) (cs:List Int) (er:Int) (r2 C2:Int) (a2:Option Addr) (n2 c2:Nat) (ds:List Int) (bad:Int) (w:World) (b:Bool) (hv:madeB r C cs er r2 C2 ds bad=b) (h:IC w a n cs) (h2:IC w a2 n2 ds) :
  Calls Tryz.prog 24 #[.agg #[.int .i64 r,.int .i64 C,.slice a n c],.int .i64 er,.agg #[.int .i64 r2,.int .i64 C2,.slice a2 n2 c2],.int .i64 bad] w fun e w'=>e = .returned (.bool b)∧Below w.heap.size w w':=by
 rw[← hv];exact lmade_c r C a n c cs er r2 C2 a2 n2 c2 ds bad w h h2
end
section
theorem Latin.lt {n:Nat} {cs:List Int} (L:Latin n cs) {i j:Nat} (hi:i<n) (hj:j<n):Go.Proofs.YtmfpdakaeagdpaaGreat.nat cs (i*n+j)<n:=(L.nat (gcell_lt hi hj)).2
theorem Latin.cinj {n:Nat} {cs:List Int} (L:Latin n cs) {i j k:Nat} (hi:i<n) (hj:j<n) (hk:k<n) (h:Go.Proofs.YtmfpdakaeagdpaaGreat.nat cs (i*n+j)=Go.Proofs.YtmfpdakaeagdpaaGreat.nat cs (k*n+j)):i=k:=by
 by_cases e:i=k
 ·exact e
 ·have h1:=L.nat (gcell_lt hi hj)
  have h2:=L.nat (gcell_lt hk hj)
  have h3:=once_iff.1 L.once (i*n+j) (k*n+j) (by rw[L.len];exact gcell_lt hi hj) (by rw[L.len];exact gcell_lt hk hj) (fun e2=>e (by have:=congrArg (· / n) e2;simp only[(gcell_div hj).1] at this;exact this)) (by unfold lineB;rw[(gcell_div hj).2,(gcell_div hj).2];simp) (by rw[h1.1,h2.1,h])
  omega
theorem Latin.ron {n:Nat} {cs:List Int} (L:Latin n cs) {i x:Nat} (hi:i<n) (hx:x<n):∃j,j<n∧Go.Proofs.YtmfpdakaeagdpaaGreat.nat cs (i*n+j)=x:=by
 obtain ⟨j,hj,e⟩:=L.row hi (x:=(x:Int)) (by omega) (by omega)
 exact ⟨j,hj,by unfold Go.Proofs.YtmfpdakaeagdpaaGreat.nat;rw[e];exact Int.toNat_natCast x⟩
theorem inj_onto {n:Nat} {f:Nat→Nat} (hf:∀i,i<n→f i<n) (hi:∀i j,i<n→j<n→f i=f j→i=j) {x:Nat} (hx:x<n):∃i,i<n∧f i=x:=by
 have hm:=full_mem (n:=n) (l:=(List.range n).map fun i=>((f i:Nat):Int)) (by
  rw[List.nodup_iff_pairwise_ne,List.pairwise_map]
  refine (List.pairwise_lt_range (n:=n)).imp_of_mem (fun {a b} ha hb hab e=>?_)
  rw[List.mem_range] at ha hb
  have:=hi a b ha hb (by omega)
  omega) (by rw[List.length_map,List.length_range]) (fun y hy=>by
  obtain ⟨j,hj,e⟩:=List.mem_map.1 hy
  have:=hf j (List.mem_range.1 hj)
  omega) (x:=(x:Int)) (by omega) (by omega)
 obtain ⟨i,h1,e⟩:=List.mem_map.1 hm
 exact ⟨i,List.mem_range.1 h1,by omega⟩
theorem Latin.con {n:Nat} {cs:List Int} (L:Latin n cs) {j x:Nat} (hj:j<n) (hx:x<n):∃i,i<n∧Go.Proofs.YtmfpdakaeagdpaaGreat.nat cs (i*n+j)=x :=
 inj_onto (f:=fun i=>Go.Proofs.YtmfpdakaeagdpaaGreat.nat cs (i*n+j)) (fun _ hi=>L.lt hi hj) (fun _ _ hi hk h=>L.cinj hi hj hk h) hx
end
section
open Go Go.RowKit
attribute [local go_sem] over_cell
attribute [local go_sem] Oper.semAt_some
theorem firstL_ne {x:Int} {l:List Int} (h:x≠0):firstL (x :: l)=x:=by
 unfold firstL
 rw[if_pos (by simpa using h)]
theorem firstL_z {l:List Int}:firstL (0 :: l)=firstL l:=by
 rw[firstL];simp
end
section
open Go Go.RowKit
attribute [local go_sem] over_cell
attribute [local go_sem] Oper.semAt_some
theorem own_emp (w:World) (B:Nat) (T:TypeId) (hB:B≤w.heap.size):(w.alloc (.cells #[] T)).ownsRow B T 1 (.slice (some ⟨w.heap.size,0,none⟩) 0 0) 0 [] :=
 ⟨rfl,.inr ⟨w.heap.size,0,#[],rfl,hB,World.alloc_heap_new _ _,Nat.le_refl _,by unfold maxLen;omega,rfl,rfl⟩⟩
theorem ints_one (l:List Int):∀u∈l.map (Value.int .i64),u.oneCell'=true:=by
 intro u hu
 obtain ⟨x,_,rfl⟩:=List.mem_map.1 hu
 rfl
theorem src_below {w w':World} {a:Option Addr} {m:Nat} {news:List Value} (h:SrcOk w a m news) (hb:Below w.heap.size w w'):SrcOk w' a m news:=by
 rcases h with ⟨p,rfl,h⟩|h
 ·exact .inl ⟨p,rfl,fun j u hj=>by
   have h1:=h j u hj
   rw[← h1]
   exact hb.cell (cell_lt h1)⟩
 ·exact .inr h
end
end Go.Proofs.YtmfpdakaeagdpaaGreat
