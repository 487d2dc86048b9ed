/- Texts O5 to J144 of this proof, in one file. -/
import Derived.Test.YtmfpdakaeagdpaaGreatW01
import Derived.Test.YtmfpdakaeagdpaaGreatW02
import Derived.Test.YtmfpdakaeagdpaaGreatW03
import Derived.Test.YtmfpdakaeagdpaaGreatW04
import Derived.Test.YtmfpdakaeagdpaaGreatW05
import Derived.Test.YtmfpdakaeagdpaaGreatW06
import Derived.Test.YtmfpdakaeagdpaaGreatW07
import Derived.Test.YtmfpdakaeagdpaaGreatW08
import Derived.Test.YtmfpdakaeagdpaaGreatW09
import Derived.Test.YtmfpdakaeagdpaaGreatW10
import Derived.Test.YtmfpdakaeagdpaaGreatW11
import Derived.Test.YtmfpdakaeagdpaaGreatW12
import Derived.Test.YtmfpdakaeagdpaaGreatW13
import Derived.Test.YtmfpdakaeagdpaaGreatW14
import Derived.Test.YtmfpdakaeagdpaaGreatW15
import Derived.Test.YtmfpdakaeagdpaaGreatW16
import Derived.Test.YtmfpdakaeagdpaaGreatW17
import Derived.Test.YtmfpdakaeagdpaaGreatW18
import Derived.Test.YtmfpdakaeagdpaaGreatW19
import Derived.Test.YtmfpdakaeagdpaaGreatW20
import Derived.Test.YtmfpdakaeagdpaaGreatW21
import Derived.Test.YtmfpdakaeagdpaaGreatW22
import Derived.Test.YtmfpdakaeagdpaaGreatW23
import Derived.Test.YtmfpdakaeagdpaaGreatW24
import Derived.Test.YtmfpdakaeagdpaaGreatW25
import Derived.Test.YtmfpdakaeagdpaaGreatW26
import Derived.Test.YtmfpdakaeagdpaaGreatW27
import Derived.Test.YtmfpdakaeagdpaaGreatX33n01
import Derived.Below
import Derived.BigFrame
import Derived.BigQuiet
import Derived.Deep.CutBlock
import Derived.Deep.CutRange
import Derived.Deep.LoopGhost
import Derived.Deep.Matrix
import Derived.Deep.Quiet
import Derived.Deep.RegionHeld3
import Derived.DeepKeys4
import Derived.KernelRfl
import Derived.Laws.BitsAllLaws
import Derived.Laws.EntriesVeiled
import Derived.Lib.AppendZeros
import Derived.Lib.Hide
import Derived.Lib.SlKeysI
import Derived.Lib.SliceRun
import Derived.Lib.SmallJoins
import Derived.LoopIn
import Derived.LoopNIn
import Derived.Maps.AppendAt
import Derived.Maps.OwnIn
import Derived.Maps.OwnSet
import Derived.OneCell
import Derived.OrdersHeld
import Derived.OrdersIn
import Derived.OwnWalkIn
import Derived.ProofKit
import Derived.RangeFuncBound
import Derived.RangeFuncBox
import Derived.RangeFuncCalls
import Derived.RangeFuncLeaves
import Derived.RangeFuncNested
import Derived.RangeFuncWrites
import Derived.Shelf.Abstract
import Derived.Shelf.SortM.Plain
import Derived.SizedLaws
import Derived.Still
import Derived.TacticsIn
import Derived.TacticsInMore
import Derived.Test.YtmfpdakaeagdpaaGreatProg
import Derived.WalkKit
import Derived.WalkLawsBesides
import Derived.WalkSpells
import Derived.WideKeyPair
namespace Go.Proofs.YtmfpdakaeagdpaaGreat
set_option maxRecDepth 100000
set_option maxHeartbeats 16000000
section
open Go Go.RowKit Go.ChangeShapes Go.WideShapes
theorem O5.cellsG:Tryz.prog.cellsOf 24=3:=by kernel_rfl
section
variable {H:Type} {enc:TypeId × Value→H} {w:World} {held:Bool}
theorem open_grid {base:Nat} {v:Value} {d:DataW H} {p:List MemPlace} (hv:Value.okWide Tryz.prog w .any base 24 v) (h:DataW.Trod enc Tryz.prog w 0 (fun _=>true) held 24 v d p) (hz:∀n∈d.weights Tryz.prog 24,n≤reachBytes) :
  ∃(r C:Int) (a:Option Addr) (n c:Nat) (P:List Int),v = .agg #[.int .i64 r,.int .i64 C,.slice a n c]∧n≤c∧IC w a n P:=by
 obtain ⟨cs,rfl,hsz⟩:=okWide_struct Tryz.underlying24 hv
 obtain ⟨c0,c1,c2,rfl⟩:=Go.Joins.array3 (hsz.trans O5.cellsG)
 obtain ⟨fuel,hf⟩:=h
 obtain ⟨y0,y1,y2,m,hx,_,h0,h1,h2⟩:=Go.Deep.trod_struct3 Tryz.underlying24 hf
 have h0':DataW.trod enc Tryz.prog w 0 (fun _=>true) held m 3 [c0]=some y0:=by simpa [Value.cells,O1.cells3] using h0
 have h1':DataW.trod enc Tryz.prog w 0 (fun _=>true) held m 3 [c1]=some y1:=by simpa [Value.cells,O1.cells3] using h1
 have h2':DataW.trod enc Tryz.prog w 0 (fun _=>true) held m 22 [c2]=some y2:=by simpa [Value.cells,O1.cells3,O1.cells25] using h2
 simp only[Prod.mk.injEq] at hx
 obtain ⟨rfl,rfl⟩:=hx
 have hwz:∀n,n∈y2.1.weights Tryz.prog 22→n≤reachBytes:=by
  intro n hn
  refine hz n ?_
  simp only[DataW.weights,Tryz.underlying24,List.map_cons,List.map_nil,DataW.weightsEach,List.mem_append]
  exact .inr (.inr (.inl hn))
 obtain ⟨r,e0,_,_⟩:=DataW.trod_int Tryz.underlying3 h0'
 obtain ⟨C,e1,_,_⟩:=DataW.trod_int Tryz.underlying3 h1'
 obtain ⟨a,n,c,P,rfl,hc,hP⟩:=O1.ints h2' hwz
 simp only[List.cons.injEq,and_true] at e0 e1
 exact ⟨r,C,a,n,c,P,by rw[e0,e1],hc,hP⟩
end
end
section
open Go Go.RowKit
attribute [local go_sem] over_cell
attribute [local go_sem] Oper.semAt_some
def cpE (p:List Int) (r:Int):Int:=firstL [whenV ((p.length:Int) != r) 2,whenV (permE p != 0) 14]
theorem ckperm_c (a:Option Addr) (n c:Nat) (p:List Int) (r:Int) (w:World) (h:IC w a n p) :
  Calls Tryz.prog 149 #[.slice a n c,.int .i64 r] w fun e w'=>e = .returned (.int .i64 (cpE p r))∧Below w.heap.size w w':=by
 have HC:=Lib.hid (aperm_c a n c p w h)
 have hl:=h.len
 have HF:Hid (firstL [whenV ((n:Int) != r) 2,whenV (permE p != 0) 14]=cpE p r):=by unfold Hid cpE;rw[hl]
 clear hl h
 generalize permE p=pe at HC HF
 generalize cpE p r=er at HF ⊢
 go_enter Tryz.func149,Tryz.ntmps149
 go_wp2_with (first|(go_at_call 195;refine HC.out.mono ?_;rintro _ w1 ⟨rfl,hb1⟩)|(go_at_call 93;refine (twhen_c _ _ _).mono ?_;rintro _ w2 ⟨rfl,rfl⟩)|(go_at_call 92;refine (tfirst_c _ _ _ _ _ (IC.new2 _ _ _ _)).mono ?_;rw[HF.out];rintro _ w3 ⟨rfl,rfl⟩)|fail)
 refine bodyPost_ret (v := .int .i64 er) ?_ rfl ⟨rfl,show Below w.heap.size w _ by (repeat (first|assumption|exact Below.refl _ _|refine keep_drew ?_|refine keep_alloc ?_ _|refine keep_trans ?_ (by assumption)))⟩
 simp[results,Tryz.f149,go_sem]
end
section
open Go Go.RowKit
attribute [local go_sem] over_cell
attribute [local go_sem] Oper.semAt_some
theorem ic_new4 (w:World) (x y z u:Int) (T:TypeId):IC (w.alloc (.cells #[.int .i64 x,.int .i64 y,.int .i64 z,.int .i64 u] T)) (some ⟨w.heap.size,0,none⟩) 4 [x,y,z,u] :=
 ⟨⟨rfl,by omega⟩,fun k hk=>⟨w.heap.size,0,rfl,by simp,by
  rw[box_cells]
  match k,hk with
  | 0,_=>rfl
  | 1,_=>rfl
  | 2,_=>rfl
  | 3,_=>rfl⟩⟩
theorem cpE_ok {p:List Int} {N:Nat} (h:cpE p (N:Int)=0):NumL N p:=by
 unfold cpE at h
 have h1:=(firstL_cons0 h).1
 have h2:=(firstL_cons0 (firstL_cons0 h).2).1
 have hl:p.length=N:=by
  by_cases e:(p.length:Int)=(N:Int)
  ·omega
  ·have:((p.length:Int) != (N:Int))=true:=by simpa using e
   rw[this] at h1
   exact absurd h1 (by decide)
 have hp:permE p=0:=by
  by_cases e:permE p=0
  ·exact e
  ·have:(permE p != 0)=true:=by simpa using e
   rw[this] at h2
   exact absurd h2 (by decide)
 refine ⟨hl,fun x hx=>?_⟩
 obtain ⟨i,hi,rfl⟩:=List.mem_iff_getElem.1 hx
 have:=(perm_ok hp).2.num i hi
 rw[List.getElem?_eq_getElem hi,Option.getD_some] at this
 omega
def ioF (r C:Int) (cs rows cols names:List Int):Int:=firstL [sqE 0 r C cs,cpE rows r,cpE cols r,cpE names r]
def ioL (r C:Int) (cs rows cols names:List Int):List Int:=if ioF r C cs rows cols names=0 then isoL (-1) r.toNat rows cols names cs else []
theorem isot_bad (r C:Int) (a:Option Addr) (m c:Nat) (cs:List Int) (ar:Option Addr) (nr cr:Nat) (rows:List Int) (ak:Option Addr) (nk ck:Nat) (cols:List Int) (an:Option Addr) (nn cn:Nat) (names:List Int) (w:World)
  (h:IC w a m cs) (hr:IC w ar nr rows) (hk:IC w ak nk cols) (hn:IC w an nn names) (er:Int) (he:ioF r C cs rows cols names=er) (h0:er≠0) :
  Calls Tryz.prog 84 #[.agg #[.int .i64 r,.int .i64 C,.slice a m c],.slice ar nr cr,.slice ak nk ck,.slice an nn cn] w (GridE w 0 0 [] er):=by
 have HK:=Lib.hid (fun W (hb:Below w.heap.size w W)=>latcheck_c r C a m c cs W (h.mono hb))
 have HP1:=Lib.hid (fun W (hb:Below w.heap.size w W)=>ckperm_c ar nr cr rows r W (hr.mono hb))
 have HP2:=Lib.hid (fun W (hb:Below w.heap.size w W)=>ckperm_c ak nk ck cols r W (hk.mono hb))
 have HP3:=Lib.hid (fun W (hb:Below w.heap.size w W)=>ckperm_c an nn cn names r W (hn.mono hb))
 have HF:Hid (firstL [sqE 0 r C cs,cpE rows r,cpE cols r,cpE names r]=er):=he
 have h0':(er != 0)=true:=by simpa using h0
 clear he h hr hk hn h0
 generalize cpE rows r=p1 at HP1 HF
 generalize cpE cols r=p2 at HP2 HF
 generalize cpE names r=p3 at HP3 HF
 go_enter Tryz.func84,Tryz.ntmps84
 go_upto_region 1 with fail
 have fsz:((w.alloc (.cells #[.int .i64 r,.int .i64 C,.slice a m c] 24)).alloc (.cells #[.int .i64 0,.int .i64 0,.slice none 0 0] 24)).heap.size=w.heap.size+2:=by simp only[World.size_alloc] <;> omega
 have fB:Below w.heap.size w ((w.alloc (.cells #[.int .i64 r,.int .i64 C,.slice a m c] 24)).alloc (.cells #[.int .i64 0,.int .i64 0,.slice none 0 0] 24)):=((Below.refl _ _).alloc (Nat.le_refl _) _).alloc (by simp only[World.size_alloc];omega) _
 have fq0:((w.alloc (.cells #[.int .i64 r,.int .i64 C,.slice a m c] 24)).alloc (.cells #[.int .i64 0,.int .i64 0,.slice none 0 0] 24)).heap[w.heap.size]?=some (.cells #[.int .i64 r,.int .i64 C,.slice a m c] 24 (0,0)):=by have h:=World.alloc_heap_new w (.cells #[.int .i64 r,.int .i64 C,.slice a m c] 24);exact (Below.heap_alloc _ _ _ (by simp only[World.size_alloc];omega)).trans (h)
 have fq1:((w.alloc (.cells #[.int .i64 r,.int .i64 C,.slice a m c] 24)).alloc (.cells #[.int .i64 0,.int .i64 0,.slice none 0 0] 24)).heap[w.heap.size+1]?=some (.cells #[.int .i64 0,.int .i64 0,.slice none 0 0] 24 (0,0)):=by have h:=World.alloc_heap_new (w.alloc (.cells #[.int .i64 r,.int .i64 C,.slice a m c] 24)) (.cells #[.int .i64 0,.int .i64 0,.slice none 0 0] 24);simp only[World.size_alloc] at h;exact h
 generalize ((w.alloc (.cells #[.int .i64 r,.int .i64 C,.slice a m c] 24)).alloc (.cells #[.int .i64 0,.int .i64 0,.slice none 0 0] 24))=W0 at fsz fB fq0 fq1 ⊢
 obtain ⟨x0,x1,x2,xl⟩:=c3_of fq0
 have Q0:=Lib.hid fq0
 have Q1:=Lib.hid fq1
 have HCB:=Lib.hid fB
 clear fsz fq0 fq1
 refine wp_region_S (fun w'=>∃u,w'=over (W0) u) [16,15,14,13] [(0,0),(0,2),(0,3),(0,4),(0,6),(0,7),(0,8),(0,10),(0,11),(0,12),(1,1),(1,5),(1,9),(2,13),(2,14),(2,15),(2,16)] (by kernel_rfl) (by kernel_rfl) (by exact ⟨_,below_over (by repeat (first|assumption|exact Below.refl _ _|refine keep_drew ?_|refine keep_alloc ?_ _|refine keep_trans ?_ (by assumption)))⟩) ?_
 dsimp only[pickOps,nthOp]
 repeat (first|(refine wpS_skip rfl (fun K hK=>?_);go_big_quiet_op;refine hK _ ?_;clear hK K)|(refine wpS_quiet rfl rfl (fun K hK=>?_);go_big_quiet_op;refine hK _ ?_;clear hK K)|(refine wpS_loud ?_;go_wp2_with (first|(go_at_call 58;refine (HK.out _ (keep_trans fB (by (repeat (first|assumption|exact Below.refl _ _|refine keep_drew ?_|refine keep_alloc ?_ _|refine keep_trans ?_ (by assumption)))))).mono ?_;rintro _ w1 ⟨rfl,hb1⟩)|(go_at_call 149;with_reducible refine (HP1.out _ (keep_trans fB (by (repeat (first|assumption|exact Below.refl _ _|refine keep_drew ?_|refine keep_alloc ?_ _|refine keep_trans ?_ (by assumption)))))).mono ?_;rintro _ w2 ⟨rfl,hb2⟩)|(go_at_call 149;with_reducible refine (HP2.out _ (keep_trans fB (by (repeat (first|assumption|exact Below.refl _ _|refine keep_drew ?_|refine keep_alloc ?_ _|refine keep_trans ?_ (by assumption)))))).mono ?_;rintro _ w3 ⟨rfl,hb3⟩)|(go_at_call 149;with_reducible refine (HP3.out _ (keep_trans fB (by (repeat (first|assumption|exact Below.refl _ _|refine keep_drew ?_|refine keep_alloc ?_ _|refine keep_trans ?_ (by assumption)))))).mono ?_;rintro _ w4 ⟨rfl,hb4⟩)|(go_at_call 92;refine (tfirst_c _ _ _ _ _ (ic_new4 _ _ _ _ _ _)).mono ?_;rw[HF.out];rintro _ w5 ⟨rfl,rfl⟩)|fail);refine ⟨?_,?_⟩;focus (exact ⟨_,below_over (by repeat (first|assumption|exact Below.refl _ _|refine keep_drew ?_|refine keep_alloc ?_ _|refine keep_trans ?_ (by assumption)))⟩)))
 refine wpS_late _ _ _ rfl ?_
 dsimp only[List.map]
 go_wp2_with (first|(go_at_call 58;refine (HK.out _ (keep_trans fB (by (repeat (first|assumption|exact Below.refl _ _|refine keep_drew ?_|refine keep_alloc ?_ _|refine keep_trans ?_ (by assumption)))))).mono ?_;rintro _ w1 ⟨rfl,hb1⟩)|(go_at_call 149;with_reducible refine (HP1.out _ (keep_trans fB (by (repeat (first|assumption|exact Below.refl _ _|refine keep_drew ?_|refine keep_alloc ?_ _|refine keep_trans ?_ (by assumption)))))).mono ?_;rintro _ w2 ⟨rfl,hb2⟩)|(go_at_call 149;with_reducible refine (HP2.out _ (keep_trans fB (by (repeat (first|assumption|exact Below.refl _ _|refine keep_drew ?_|refine keep_alloc ?_ _|refine keep_trans ?_ (by assumption)))))).mono ?_;rintro _ w3 ⟨rfl,hb3⟩)|(go_at_call 149;with_reducible refine (HP3.out _ (keep_trans fB (by (repeat (first|assumption|exact Below.refl _ _|refine keep_drew ?_|refine keep_alloc ?_ _|refine keep_trans ?_ (by assumption)))))).mono ?_;rintro _ w4 ⟨rfl,hb4⟩)|(go_at_call 92;refine (tfirst_c _ _ _ _ _ (ic_new4 _ _ _ _ _ _)).mono ?_;rw[HF.out];rintro _ w5 ⟨rfl,rfl⟩)|fail)
 refine NoPanic.normal ?_
 have hB2:Below W0.heap.size W0 (w4.alloc (.cells #[.int .i64 (sqE 0 r C cs),.int .i64 p1,.int .i64 p2,.int .i64 p3] 27)):=by (repeat (first|assumption|exact Below.refl _ _|refine keep_drew ?_|refine keep_alloc ?_ _|refine keep_trans ?_ (by assumption)))
 have HB2:=Lib.hid (keep_trans HCB.out hB2)
 have P0:=Lib.hid (keepq hB2 Q0.out)
 have P1:=Lib.hid (keepq hB2 Q1.out)
 clear hB2 hb1 hb2 hb3 hb4 fB x0 x1 x2 xl
 generalize (w4.alloc (.cells #[.int .i64 (sqE 0 r C cs),.int .i64 p1,.int .i64 p2,.int .i64 p3] 27))=W2 at HB2 P0 P1 ⊢
 obtain ⟨x0,x1,x2,xl⟩:=c3_of P0.out
 obtain ⟨y0,y1,y2,yl⟩:=c3_of P1.out
 obtain ⟨yf0,yf1,yf2⟩:=f3_of P1.out
 go_wp2_with fail
 have g3:=st3_q (x0 := .int .i64 0) (x1 := .int .i64 0) (x2 := .slice none 0 0) P1.out
 have hb3:=st3_below (x0 := .int .i64 0) (x1 := .int .i64 0) (x2 := .slice none 0 0) (b:=w.heap.size+1) HB2.out (by omega)
 obtain ⟨z0,z1,z2,zl⟩:=c3_of g3
 refine bodyPost_ret (v := .tuple #[.agg #[.int .i64 0,.int .i64 0,.slice none 0 0],.int .i64 (er)]) ?_ rfl ⟨none,0,rfl,World.ownsRow_nil _ _ _ _,(by first|exact hb3|exact hb3.drew)⟩
 simp[results,Tryz.f84,go_sem,z0,z1,z2]
theorem isot_ok (N:Nat) (a:Option Addr) (m c:Nat) (cs:List Int) (ar:Option Addr) (nr cr:Nat) (rows:List Int) (ak:Option Addr) (nk ck:Nat) (cols:List Int) (an:Option Addr) (nn cn:Nat) (names:List Int) (w:World)
  (h:IC w a m cs) (hr:IC w ar nr rows) (hk:IC w ak nk cols) (hn:IC w an nn names) (L:Latin N cs) (he:ioF (N:Int) (N:Int) cs rows cols names=0) (es:List Int) (hes:es=isoL (-1) N rows cols names cs) :
  Calls Tryz.prog 84 #[.agg #[.int .i64 (N:Int),.int .i64 (N:Int),.slice a m c],.slice ar nr cr,.slice ak nk ck,.slice an nn cn] w (GridE w (N:Int) (N:Int) es 0):=by
 have HK:=Lib.hid (fun W (hb:Below w.heap.size w W)=>latcheck_c (N:Int) (N:Int) a m c cs W (h.mono hb))
 have HP1:=Lib.hid (fun W (hb:Below w.heap.size w W)=>ckperm_c ar nr cr rows (N:Int) W (hr.mono hb))
 have HP2:=Lib.hid (fun W (hb:Below w.heap.size w W)=>ckperm_c ak nk ck cols (N:Int) W (hk.mono hb))
 have HP3:=Lib.hid (fun W (hb:Below w.heap.size w W)=>ckperm_c an nn cn names (N:Int) W (hn.mono hb))
 have HF:Hid (firstL [sqE 0 (N:Int) (N:Int) cs,cpE rows (N:Int),cpE cols (N:Int),cpE names (N:Int)]=0):=he
 have he1:=(firstL_cons0 he).2
 have n1:=cpE_ok (firstL_cons0 he1).1
 have n2:=cpE_ok (firstL_cons0 (firstL_cons0 he1).2).1
 have n3:=cpE_ok (firstL_cons0 (firstL_cons0 (firstL_cons0 he1).2).2).1
 have HIS:Hid (∀W,Below w.heap.size w W→Calls Tryz.prog 150 #[.agg #[.int .i64 (N:Int),.int .i64 (N:Int),.slice a m c],.slice ar nr cr,.slice ak nk ck,.slice an nn cn] W (GridM W (N:Int) (N:Int) es)):=fun W hb=>by
  have hrl:nr=N:=by rw[← hr.len];exact n1.len
  have hkl:nk=N:=by rw[← hk.len];exact n2.len
  have hnl:nn=N:=by rw[← hn.len];exact n3.len
  subst hrl
  rw[hkl,hnl,hes]
  exact isotope_c nr a m c cs ar cr rows ak ck cols an cn names W (h.mono hb) L.sq (hr.mono hb) n1 (by rw[← hkl];exact hk.mono hb) n2 (by rw[← hnl];exact hn.mono hb) n3
 clear he he1 h hr hk hn n1 n2 n3 L hes
 generalize cpE rows (N:Int)=p1 at HP1 HF
 generalize cpE cols (N:Int)=p2 at HP2 HF
 generalize cpE names (N:Int)=p3 at HP3 HF
 go_enter Tryz.func84,Tryz.ntmps84
 go_upto_region 1 with fail
 have fsz:((w.alloc (.cells #[.int .i64 (N:Int),.int .i64 (N:Int),.slice a m c] 24)).alloc (.cells #[.int .i64 0,.int .i64 0,.slice none 0 0] 24)).heap.size=w.heap.size+2:=by simp only[World.size_alloc] <;> omega
 have fB:Below w.heap.size w ((w.alloc (.cells #[.int .i64 (N:Int),.int .i64 (N:Int),.slice a m c] 24)).alloc (.cells #[.int .i64 0,.int .i64 0,.slice none 0 0] 24)):=((Below.refl _ _).alloc (Nat.le_refl _) _).alloc (by simp only[World.size_alloc];omega) _
 have fq0:((w.alloc (.cells #[.int .i64 (N:Int),.int .i64 (N:Int),.slice a m c] 24)).alloc (.cells #[.int .i64 0,.int .i64 0,.slice none 0 0] 24)).heap[w.heap.size]?=some (.cells #[.int .i64 (N:Int),.int .i64 (N:Int),.slice a m c] 24 (0,0)):=by have h:=World.alloc_heap_new w (.cells #[.int .i64 (N:Int),.int .i64 (N:Int),.slice a m c] 24);exact (Below.heap_alloc _ _ _ (by simp only[World.size_alloc];omega)).trans (h)
 have fq1:((w.alloc (.cells #[.int .i64 (N:Int),.int .i64 (N:Int),.slice a m c] 24)).alloc (.cells #[.int .i64 0,.int .i64 0,.slice none 0 0] 24)).heap[w.heap.size+1]?=some (.cells #[.int .i64 0,.int .i64 0,.slice none 0 0] 24 (0,0)):=by have h:=World.alloc_heap_new (w.alloc (.cells #[.int .i64 (N:Int),.int .i64 (N:Int),.slice a m c] 24)) (.cells #[.int .i64 0,.int .i64 0,.slice none 0 0] 24);simp only[World.size_alloc] at h;exact h
 generalize ((w.alloc (.cells #[.int .i64 (N:Int),.int .i64 (N:Int),.slice a m c] 24)).alloc (.cells #[.int .i64 0,.int .i64 0,.slice none 0 0] 24))=W0 at fsz fB fq0 fq1 ⊢
 obtain ⟨x0,x1,x2,xl⟩:=c3_of fq0
 have Q0:=Lib.hid fq0
 have Q1:=Lib.hid fq1
 have HCB:=Lib.hid fB
 clear fsz fq0 fq1
 refine wp_region_S (fun w'=>∃u,w'=over (W0) u) [16,15,14,13] [(0,0),(0,2),(0,3),(0,4),(0,6),(0,7),(0,8),(0,10),(0,11),(0,12),(1,1),(1,5),(1,9),(2,13),(2,14),(2,15),(2,16)] (by kernel_rfl) (by kernel_rfl) (by exact ⟨_,below_over (by repeat (first|assumption|exact Below.refl _ _|refine keep_drew ?_|refine keep_alloc ?_ _|refine keep_trans ?_ (by assumption)))⟩) ?_
 dsimp only[pickOps,nthOp]
 repeat (first|(refine wpS_skip rfl (fun K hK=>?_);go_big_quiet_op;refine hK _ ?_;clear hK K)|(refine wpS_quiet rfl rfl (fun K hK=>?_);go_big_quiet_op;refine hK _ ?_;clear hK K)|(refine wpS_loud ?_;go_wp2_with (first|(go_at_call 58;refine (HK.out _ (keep_trans fB (by (repeat (first|assumption|exact Below.refl _ _|refine keep_drew ?_|refine keep_alloc ?_ _|refine keep_trans ?_ (by assumption)))))).mono ?_;rintro _ w1 ⟨rfl,hb1⟩)|(go_at_call 149;with_reducible refine (HP1.out _ (keep_trans fB (by (repeat (first|assumption|exact Below.refl _ _|refine keep_drew ?_|refine keep_alloc ?_ _|refine keep_trans ?_ (by assumption)))))).mono ?_;rintro _ w2 ⟨rfl,hb2⟩)|(go_at_call 149;with_reducible refine (HP2.out _ (keep_trans fB (by (repeat (first|assumption|exact Below.refl _ _|refine keep_drew ?_|refine keep_alloc ?_ _|refine keep_trans ?_ (by assumption)))))).mono ?_;rintro _ w3 ⟨rfl,hb3⟩)|(go_at_call 149;with_reducible refine (HP3.out _ (keep_trans fB (by (repeat (first|assumption|exact Below.refl _ _|refine keep_drew ?_|refine keep_alloc ?_ _|refine keep_trans ?_ (by assumption)))))).mono ?_;rintro _ w4 ⟨rfl,hb4⟩)|(go_at_call 92;refine (tfirst_c _ _ _ _ _ (ic_new4 _ _ _ _ _ _)).mono ?_;rw[HF.out];rintro _ w5 ⟨rfl,rfl⟩)|fail);refine ⟨?_,?_⟩;focus (exact ⟨_,below_over (by repeat (first|assumption|exact Below.refl _ _|refine keep_drew ?_|refine keep_alloc ?_ _|refine keep_trans ?_ (by assumption)))⟩)))
 refine wpS_late _ _ _ rfl ?_
 dsimp only[List.map]
 go_wp2_with (first|(go_at_call 58;refine (HK.out _ (keep_trans fB (by (repeat (first|assumption|exact Below.refl _ _|refine keep_drew ?_|refine keep_alloc ?_ _|refine keep_trans ?_ (by assumption)))))).mono ?_;rintro _ w1 ⟨rfl,hb1⟩)|(go_at_call 149;with_reducible refine (HP1.out _ (keep_trans fB (by (repeat (first|assumption|exact Below.refl _ _|refine keep_drew ?_|refine keep_alloc ?_ _|refine keep_trans ?_ (by assumption)))))).mono ?_;rintro _ w2 ⟨rfl,hb2⟩)|(go_at_call 149;with_reducible refine (HP2.out _ (keep_trans fB (by (repeat (first|assumption|exact Below.refl _ _|refine keep_drew ?_|refine keep_alloc ?_ _|refine keep_trans ?_ (by assumption)))))).mono ?_;rintro _ w3 ⟨rfl,hb3⟩)|(go_at_call 149;with_reducible refine (HP3.out _ (keep_trans fB (by (repeat (first|assumption|exact Below.refl _ _|refine keep_drew ?_|refine keep_alloc ?_ _|refine keep_trans ?_ (by assumption)))))).mono ?_;rintro _ w4 ⟨rfl,hb4⟩)|(go_at_call 92;refine (tfirst_c _ _ _ _ _ (ic_new4 _ _ _ _ _ _)).mono ?_;rw[HF.out];rintro _ w5 ⟨rfl,rfl⟩)|fail)
 refine NoPanic.normal ?_
 have hB2:Below W0.heap.size W0 (w4.alloc (.cells #[.int .i64 (sqE 0 (N:Int) (N:Int) cs),.int .i64 p1,.int .i64 p2,.int .i64 p3] 27)):=by (repeat (first|assumption|exact Below.refl _ _|refine keep_drew ?_|refine keep_alloc ?_ _|refine keep_trans ?_ (by assumption)))
 have HB2:=Lib.hid (keep_trans HCB.out hB2)
 have P0:=Lib.hid (keepq hB2 Q0.out)
 have P1:=Lib.hid (keepq hB2 Q1.out)
 clear hB2 hb1 hb2 hb3 hb4 fB x0 x1 x2 xl
 generalize (w4.alloc (.cells #[.int .i64 (sqE 0 (N:Int) (N:Int) cs),.int .i64 p1,.int .i64 p2,.int .i64 p3] 27))=W2 at HB2 P0 P1 ⊢
 obtain ⟨x0,x1,x2,xl⟩:=c3_of P0.out
 have hl1:=q_lt P1.out
 go_wp2_with (first|(go_at_call 150;refine (HIS.out _ HB2.out).mono ?_;rintro _ w6 ⟨a2,c2,rfl,hown2,hb6⟩;have g1:=keepq hb6 P1.out;obtain ⟨y0,y1,y2,yl⟩:=c3_of g1;obtain ⟨yf0,yf1,yf2⟩:=f3_of g1)|fail)
 have hne:(Value.slice a2 (es).length c2).ownBlock≠some (w.heap.size+1):=fun e=>absurd (hown2.lt _ e).1 (by omega)
 have g3:=st3_q (x0 := .int .i64 (N:Int)) (x1 := .int .i64 (N:Int)) (x2 := .slice a2 (es).length c2) g1
 have hown3:=st3_own (x0 := .int .i64 (N:Int)) (x1 := .int .i64 (N:Int)) (x2 := .slice a2 (es).length c2) hown2 hne
 have hb3:=st3_below (x0 := .int .i64 (N:Int)) (x1 := .int .i64 (N:Int)) (x2 := .slice a2 (es).length c2) (b:=w.heap.size+1) (keep_trans HB2.out hb6) (by omega)
 obtain ⟨z0,z1,z2,zl⟩:=c3_of g3
 refine bodyPost_ret (v := .tuple #[.agg #[.int .i64 (N:Int),.int .i64 (N:Int),.slice a2 (es).length c2],.int .i64 0]) ?_ rfl ⟨_,_,rfl,owns_base hown3 HB2.out.size,(by first|exact hb3|exact hb3.drew)⟩
 simp[results,Tryz.f84,go_sem,z0,z1,z2]
theorem isot_c (r C:Int) (a:Option Addr) (m c:Nat) (cs:List Int) (ar:Option Addr) (nr cr:Nat) (rows:List Int) (ak:Option Addr) (nk ck:Nat) (cols:List Int) (an:Option Addr) (nn cn:Nat) (names:List Int) (w:World)
  (h:IC w a m cs) (hr:IC w ar nr rows) (hk:IC w ak nk cols) (hn:IC w an nn names) :
  Calls Tryz.prog 84 #[.agg #[.int .i64 r,.int .i64 C,.slice a m c],.slice ar nr cr,.slice ak nk ck,.slice an nn cn] w (GridE w (if ioF r C cs rows cols names=0 then r else 0) (if ioF r C cs rows cols names=0 then r else 0) (ioL r C cs rows cols names) (ioF r C cs rows cols names)):=by
 by_cases h0:ioF r C cs rows cols names=0
 ·have h1:=h0
  unfold ioF at h1
  obtain ⟨N,rfl,rfl,L⟩:=sqE_ok (firstL_cons0 h1).1
  have hl:ioL (N:Int) (N:Int) cs rows cols names=isoL (-1) N rows cols names cs:=if_pos h0
  rw[if_pos h0,h0]
  exact isot_ok N a m c cs ar nr cr rows ak nk ck cols an nn cn names w h hr hk hn L h0 _ hl
 ·have hl:ioL r C cs rows cols names=[]:=if_neg h0
  rw[if_neg h0,hl]
  exact isot_bad r C a m c cs ar nr cr rows ak nk ck cols an nn cn names w h hr hk hn _ rfl h0
end
section
open Go Go.RowKit
attribute [local go_sem] over_cell
attribute [local go_sem] Oper.semAt_some
theorem lgreat_c (r C:Int) (a:Option Addr) (m c:Nat) (k:Int) (w:World):Calls Tryz.prog 19 #[.agg #[.int .i64 r,.int .i64 C,.slice a m c],.int .i64 k] w fun e w'=>e = .returned (.bool (decide (k<(m:Int))))∧Below w.heap.size w w':=by
 go_enter Tryz.func19,Tryz.ntmps19
 go_upto_region 1 with fail
 have fsz:(w.alloc (.cells #[.int .i64 r,.int .i64 C,.slice a m c] 24)).heap.size=w.heap.size+1:=by simp only[World.size_alloc]
 have fB:Below w.heap.size w (w.alloc (.cells #[.int .i64 r,.int .i64 C,.slice a m c] 24)):=(Below.refl _ _).alloc (Nat.le_refl _) _
 have fq0:(w.alloc (.cells #[.int .i64 r,.int .i64 C,.slice a m c] 24)).heap[w.heap.size]?=some (.cells #[.int .i64 r,.int .i64 C,.slice a m c] 24 (0,0)):=by have h:=World.alloc_heap_new w (.cells #[.int .i64 r,.int .i64 C,.slice a m c] 24);exact h
 generalize (w.alloc (.cells #[.int .i64 r,.int .i64 C,.slice a m c] 24))=W0 at fsz fB fq0 ⊢
 obtain ⟨x0,x1,x2,xl⟩:=c3_of fq0
 clear fq0 fsz
 go_wp2_with fail
 refine bodyPost_ret (v := .bool (decide (k<(m:Int)))) ?_ rfl ⟨rfl,fB⟩
 simp[results,Tryz.f19,go_sem]
end
section
open Go Go.RowKit
theorem transL_mem {n:Nat} {cs:List Int}:∀{f:Nat} {t X:List Int},X.length=t.length+f→(∃u,X=t++u)→(∀y,y∈X→0≤y∧y<(n:Int))→(∀k,t.length≤k→k≤X.length→transB n cs (X.take k)=true)→X∈transL n cs f t:=by
 intro f
 induction f with
 | zero =>
  rintro t X hl ⟨u,rfl⟩ _ _
  have:u=[]:=List.eq_nil_of_length_eq_zero (by rw[List.length_append] at hl;omega)
  subst this
  unfold transL
  simp
 | succ f ih =>
  rintro t X hl ⟨u,rfl⟩ hr hb
  cases u with
  | nil=>rw[List.append_nil] at hl;omega
  | cons x u =>
   have hx:=hr x (by simp)
   unfold transL
   rw[List.mem_flatMap]
   refine ⟨x.toNat,List.mem_range.2 (by omega),?_⟩
   have hxn:((x.toNat:Nat):Int)=x:=by omega
   rw[hxn]
   have hb1:=hb (t.length+1) (by omega) (by simp)
   have htk:(t++x :: u).take (t.length+1)=t++[x]:=by
    rw[List.take_append,List.take_of_length_le (by omega)]
    simp
   rw[htk] at hb1
   rw[if_pos hb1]
   have e:t++x :: u=(t++[x])++u:=by simp
   rw[e] at hl hr hb ⊢
   exact ih (by rw[hl];simp only[List.length_append,List.length_singleton];omega) ⟨u,rfl⟩ hr (fun k h1 h2=>hb k (by simp only[List.length_append,List.length_singleton] at h1;omega) h2)
theorem transB_tk {n:Nat} {cs t:List Int} (h:transB n cs t=true) (k:Nat):transB n cs (t.take k)=true:=by
 unfold transB at h ⊢
 rw[List.all_eq_true] at h ⊢
 intro i hi
 rw[List.mem_range,List.length_take] at hi
 have h1:=h i (List.mem_range.2 (by omega))
 rw[List.all_eq_true] at h1 ⊢
 intro j hj
 have h2:=h1 j hj
 rw[List.mem_range] at hj
 rw[List.getElem?_take_of_lt (by omega),List.getElem?_take_of_lt (by omega)]
 exact h2
theorem transL_has {n:Nat} {cs t:List Int} (h:transB n cs t=true) (hl:t.length=n) (hr:∀y,y∈t→0≤y∧y<(n:Int)):t∈transL n cs n [] :=
 transL_mem (by simpa using hl) ⟨t,rfl⟩ hr (fun k _ _=>transB_tk h k)
theorem transL_sound {n:Nat} {cs:List Int}:∀{f:Nat} {t X:List Int},X∈transL n cs f t→transB n cs t=true→(∀y,y∈t→0≤y∧y<(n:Int))→transB n cs X=true∧X.length=t.length+f∧∀y,y∈X→0≤y∧y<(n:Int)
 | 0,t,X,hX,h1,h2=>by
  unfold transL at hX
  rw[List.mem_singleton] at hX
  subst hX
  exact ⟨h1,rfl,h2⟩
 | f+1,t,X,hX,_,h2=>by
  unfold transL at hX
  rw[List.mem_flatMap] at hX
  obtain ⟨j,hj,hX⟩:=hX
  rw[List.mem_range] at hj
  split at hX
  ·rename_i hb
   obtain ⟨a1,a2,a3⟩:=transL_sound hX hb (fun y hy=>by
    rcases List.mem_append.1 hy with hy|hy
    ·exact h2 y hy
    ·rw[List.mem_singleton] at hy;omega)
   refine ⟨a1,?_,a3⟩
   rw[a2,List.length_append,List.length_singleton];omega
  ·exact absurd hX (by simp)
theorem nodupA_le {α:Type} [DecidableEq α]:∀{l m:List α},l.Nodup→(∀x,x∈l→x∈m)→l.length≤m.length
 | [],_,_,_=>Nat.zero_le _
 | x :: l,m,hn,hs=>by
  rw[List.nodup_cons] at hn
  have hx:=hs x List.mem_cons_self
  have h:=nodupA_le (l:=l) (m:=m.erase x) hn.2 (fun y hy=>(List.mem_erase_of_ne (fun e=>hn.1 (by rw[← e];exact hy))).2 (hs y (List.mem_cons_of_mem _ hy)))
  rw[List.length_erase_of_mem hx] at h
  have:=List.length_pos_of_mem hx
  simp only[List.length_cons]
  omega
end
section
theorem lat_sqE {n:Nat} {cs:List Int} (L:Latin n cs):sqE 0 (n:Int) (n:Int) cs=0:=by
 have h1:sqB (n:Int) (n:Int) cs=true:=by
  unfold sqB
  rw[L.len,← Int.natCast_mul]
  simp only[Bool.and_eq_true,decide_eq_true_eq]
  exact ⟨⟨⟨trivial,by have:=L.pos;omega⟩,by have:=L.le;omega⟩,trivial⟩
 unfold sqE
 rw[if_pos h1]
 unfold symE
 rw[if_neg,if_neg]
 ·rw[Int.toNat_natCast,L.once];decide
 ·rw[Bool.not_eq_true,List.any_eq_false]
  intro x hx
  have:=L.num x hx
  simp only[Bool.or_eq_true,decide_eq_true_eq,Int.toNat_natCast]
  omega
theorem Latin.lt {n:Nat} {cs:List Int} (L:Latin n cs) {i j:Nat} (hi:i<n) (hj:j<n):Go.Proofs.YtmfpdakaeagdpaaGreat.nat cs (i*n+j)<n:=(L.nat (gcell_lt hi hj)).2
theorem Latin.rinj {n:Nat} {cs:List Int} (L:Latin n cs) {i j k:Nat} (hi:i<n) (hj:j<n) (hk:k<n) (h:Go.Proofs.YtmfpdakaeagdpaaGreat.nat cs (i*n+j)=Go.Proofs.YtmfpdakaeagdpaaGreat.nat cs (i*n+k)):j=k:=by
 by_cases e:j=k
 ·exact e
 ·have h1:=L.nat (gcell_lt hi hj)
  have h2:=L.nat (gcell_lt hi hk)
  have h3:=once_iff.1 L.once (i*n+j) (i*n+k) (by rw[L.len];exact gcell_lt hi hj) (by rw[L.len];exact gcell_lt hi hk) (by omega) (by unfold lineB;rw[(gcell_div hj).1,(gcell_div hk).1];simp) (by rw[h1.1,h2.1,h])
  omega
theorem Latin.cinj {n:Nat} {cs:List Int} (L:Latin n cs) {i j k:Nat} (hi:i<n) (hj:j<n) (hk:k<n) (h:Go.Proofs.YtmfpdakaeagdpaaGreat.nat cs (i*n+j)=Go.Proofs.YtmfpdakaeagdpaaGreat.nat cs (k*n+j)):i=k:=by
 by_cases e:i=k
 ·exact e
 ·have h1:=L.nat (gcell_lt hi hj)
  have h2:=L.nat (gcell_lt hk hj)
  have h3:=once_iff.1 L.once (i*n+j) (k*n+j) (by rw[L.len];exact gcell_lt hi hj) (by rw[L.len];exact gcell_lt hk hj) (fun e2=>e (by have:=congrArg (· / n) e2;simp only[(gcell_div hj).1] at this;exact this)) (by unfold lineB;rw[(gcell_div hj).2,(gcell_div hj).2];simp) (by rw[h1.1,h2.1,h])
  omega
theorem Latin.ron {n:Nat} {cs:List Int} (L:Latin n cs) {i x:Nat} (hi:i<n) (hx:x<n):∃j,j<n∧Go.Proofs.YtmfpdakaeagdpaaGreat.nat cs (i*n+j)=x:=by
 obtain ⟨j,hj,e⟩:=L.row hi (x:=(x:Int)) (by omega) (by omega)
 exact ⟨j,hj,by unfold Go.Proofs.YtmfpdakaeagdpaaGreat.nat;rw[e];exact Int.toNat_natCast x⟩
theorem inj_onto {n:Nat} {f:Nat→Nat} (hf:∀i,i<n→f i<n) (hi:∀i j,i<n→j<n→f i=f j→i=j) {x:Nat} (hx:x<n):∃i,i<n∧f i=x:=by
 have hm:=full_mem (n:=n) (l:=(List.range n).map fun i=>((f i:Nat):Int)) (by
  rw[List.nodup_iff_pairwise_ne,List.pairwise_map]
  refine (List.pairwise_lt_range (n:=n)).imp_of_mem (fun {a b} ha hb hab e=>?_)
  rw[List.mem_range] at ha hb
  have:=hi a b ha hb (by omega)
  omega) (by rw[List.length_map,List.length_range]) (fun y hy=>by
  obtain ⟨j,hj,e⟩:=List.mem_map.1 hy
  have:=hf j (List.mem_range.1 hj)
  omega) (x:=(x:Int)) (by omega) (by omega)
 obtain ⟨i,h1,e⟩:=List.mem_map.1 hm
 exact ⟨i,List.mem_range.1 h1,by omega⟩
theorem Latin.con {n:Nat} {cs:List Int} (L:Latin n cs) {j x:Nat} (hj:j<n) (hx:x<n):∃i,i<n∧Go.Proofs.YtmfpdakaeagdpaaGreat.nat cs (i*n+j)=x :=
 inj_onto (f:=fun i=>Go.Proofs.YtmfpdakaeagdpaaGreat.nat cs (i*n+j)) (fun _ hi=>L.lt hi hj) (fun _ _ hi hk h=>L.cinj hi hj hk h) hx
theorem redu_at {x:Int} {n:Nat} {cs:List Int} (L:Latin n cs) {z i j:Nat} (hz:z<n) (h0:nat cs z=0) (hi:i<n) (hj:j<n):nat (reduL x n cs) (nat cs (i*n+z)*n+nat cs j)=nat cs (i*n+j):=by
 have h1:=iso_latin (x:=x) L sameL_perm L.rowZ sameL_perm
 have hpos:=L.pos
 have hrz:∀j,j<n→nat (Go.Proofs.YtmfpdakaeagdpaaGreat.rowZ n cs) j=nat cs j:=fun j hj=>by
  unfold nat Go.Proofs.YtmfpdakaeagdpaaGreat.rowZ
  rw[List.getElem?_take_of_lt hj]
 have hrl:∀j,j<n→nat cs j<n:=fun j hj=>by have:=L.lt hpos hj;rwa [Nat.zero_mul,Nat.zero_add] at this
 have hl1:∀i j,i<n→j<n→nat (isoL x n (sameL n) (Go.Proofs.YtmfpdakaeagdpaaGreat.rowZ n cs) (sameL n) cs) (i*n+nat cs j)=nat cs (i*n+j):=fun i j hi hj=>by
  have h2:=iso_get (x:=x) (names:=sameL n) (cs:=cs) sameL_perm L.rowZ hi hj
  rw[(sameL_get hi).2,hrz j hj,(sameL_get (L.lt hi hj)).1] at h2
  unfold nat at h2 ⊢
  rw[h2];exact Int.toNat_natCast _
 have hcz:∀i,i<n→nat (Go.Proofs.YtmfpdakaeagdpaaGreat.colZ n (isoL x n (sameL n) (Go.Proofs.YtmfpdakaeagdpaaGreat.rowZ n cs) (sameL n) cs)) i=nat cs (i*n+z):=fun i hi=>by
  have h2:=hl1 i z hi hz
  rw[h0,Nat.add_zero] at h2
  rw[← h2]
  unfold nat Go.Proofs.YtmfpdakaeagdpaaGreat.colZ
  rw[List.getElem?_map,List.getElem?_range hi]
  rfl
 have h3:=iso_get (x:=x) (names:=sameL n) (cs:=isoL x n (sameL n) (Go.Proofs.YtmfpdakaeagdpaaGreat.rowZ n cs) (sameL n) cs) h1.colZ sameL_perm hi (hrl j hj)
 rw[hcz i hi,(sameL_get (hrl j hj)).2,hl1 i j hi hj,(sameL_get (L.lt hi hj)).1] at h3
 unfold nat at h3 ⊢
 unfold reduL
 rw[h3];exact Int.toNat_natCast _
theorem kGrp_iff {n:Nat} {cs:List Int} (hn:1≤n):kGrp n cs=true↔∀x y z,x<n→y<n→z<n→nat (reduL (-1) n cs) (nat (reduL (-1) n cs) (x*n+y)*n+z)=nat (reduL (-1) n cs) (x*n+nat (reduL (-1) n cs) (y*n+z)):=by
 unfold kGrp
 rw[List.all_eq_true]
 constructor
 ·intro h x y z hx hy hz
  have hxy:=gcell_lt hx hy
  have h1:=h ((x*n+y)*n+z) (List.mem_range.2 (by
   have:=Nat.mul_le_mul_right n (show x*n+y+1≤n*n by omega)
   rw[Nat.add_mul,Nat.one_mul] at this
   omega))
  rw[(gcell_div hz).1,(gcell_div hz).2,(gcell_div hy).1,(gcell_div hy).2,beq_iff_eq] at h1
  exact h1
 ·intro h k hk
  rw[List.mem_range] at hk
  have h1:k / n<n*n:=Nat.div_lt_of_lt_mul (by rw[Nat.mul_comm n (n*n)];exact hk)
  have h2:k / n / n<n:=Nat.div_lt_of_lt_mul h1
  have:=h (k / n / n) (k / n % n) (k % n) h2 (Nat.mod_lt _ (by omega)) (Nat.mod_lt _ (by omega))
  rw[beq_iff_eq]
  exact this
end
section
open Go Go.RowKit
attribute [local go_sem] over_cell
attribute [local go_sem] Oper.semAt_some
theorem lcount_c (r C:Int) (a:Option Addr) (n c:Nat) (cs:List Int) (w:World) (h:IC w a n cs) :
  Calls Tryz.prog 82 #[.agg #[.int .i64 r,.int .i64 C,.slice a n c]] w fun e w'=>e = .returned (.tuple #[.int .i64 ((trL r C cs).length:Int),.bool (trE r C cs==0)])∧Below w.heap.size w w':=by
 have HT:=Lib.hid (fun W (hb:Below w.heap.size w W)=>transv_c r C a n c cs W (h.mono hb))
 generalize (trL r C cs).length=m at HT ⊢
 generalize trL r C cs=T at HT
 generalize trE r C cs=er at HT ⊢
 clear h
 go_enter Tryz.func82,Tryz.ntmps82
 go_upto_region 1 with fail
 have fB:Below w.heap.size w (w.alloc (.cells #[.int .i64 r,.int .i64 C,.slice a n c] 24)):=(Below.refl _ _).alloc (Nat.le_refl _) _
 have FQ:Hid ((w.alloc (.cells #[.int .i64 r,.int .i64 C,.slice a n c] 24)).heap[w.heap.size]?=some (.cells #[.int .i64 r,.int .i64 C,.slice a n c] 24 (0,0))):=World.alloc_heap_new _ _
 generalize (w.alloc (.cells #[.int .i64 r,.int .i64 C,.slice a n c] 24))=W0 at fB FQ ⊢
 obtain ⟨x0,x1,x2,xl⟩:=c3_of FQ.out
 have FB:=Lib.hid fB
 clear fB
 go_wp2_with (first|(go_at_call 67;(with_reducible refine (HT.out _ FB.out).mono ?_);rintro _ w5 ⟨a9,c9,rfl,_,hb5⟩)|fail)
 refine bodyPost_ret (v := .tuple #[.int .i64 (m:Int),.bool (er==0)]) ?_ rfl ⟨rfl,keep_trans FB.out hb5⟩
 simp[results,Tryz.f82,go_sem]
theorem trE_zero {N:Nat} {cs:List Int} (L:Latin N cs) (h7:N≤7):trE (N:Int) (N:Int) cs=0∧trL (N:Int) (N:Int) cs=transL N cs N []:=by
 have h:trE (N:Int) (N:Int) cs=0:=by
  unfold trE
  rw[lat_sqE L,decide_eq_false (show ¬(7:Int)<(N:Int) by omega)]
  rfl
 refine ⟨h,?_⟩
 unfold trL
 rw[if_pos h];rfl
end
section
open Go Go.RowKit
attribute [local go_sem] over_cell
attribute [local go_sem] Oper.semAt_some
def SC (w:World) (a:Option Addr) (n:Nat) (l:List ByteArray):Prop:=(l.length=n∧n≤1000)∧∀k,k<n→∃b off,a=some ⟨b,off,none⟩∧b<w.heap.size∧w.cell? ⟨b,off+k,none⟩=some (.string (l[k]?.getD ⟨#[]⟩))
theorem SC.mono {w w':World} {a:Option Addr} {n:Nat} {l:List ByteArray} (h:SC w a n l) (hb:Below w.heap.size w w'):SC w' a n l :=
 ⟨h.1,fun k hk=>by
  obtain ⟨b,off,e,hl,hc⟩:=h.2 k hk
  exact ⟨b,off,e,Nat.lt_of_lt_of_le hl hb.size,(hb.cell (p:=⟨b,off+k,none⟩) hl).trans hc⟩⟩
def isGr (s:ByteArray):Bool:=s.toList==[103,114,111,117,112]
theorem lhas_c (a:Option Addr) (n c:Nat) (l:List ByteArray) (w:World) (h:SC w a n l) :
  Calls Tryz.prog 73 #[.slice a n c,.string ⟨#[103,114,111,117,112]⟩] w fun e w'=>e = .returned (.bool (l.any isGr))∧Below w.heap.size w w':=by
 have HH:=Lib.hid h
 have HL:Hid (l.length=n):=h.1.1
 have hn:=h.1.2
 clear h
 go_enter Tryz.func73,Tryz.ntmps73
 go_wp2_with fail
 go_loopw [6,9] (fun _ s9 wr=>∃k:Nat,k≤n∧s9 = .int .i64 (k:Int)∧Hid (∀j,j<k→isGr (l[j]?.getD ⟨#[]⟩)=false)∧wr=w) (fun _ s9 _=>n - (intOf s9).toNat)
 case atStart=>exact ⟨0,by omega,rfl,fun j hj=>absurd hj (by omega),rfl⟩
 case round =>
  obtain ⟨k,hk,rfl,hp,hwr⟩:=hrel
  replace hwr:=hwr.symm
  subst hwr
  by_cases hlt:k<n
  ·have hki:(k:Int)<(n:Int):=by omega
   obtain ⟨b,off,rfl,hb,hc⟩:=HH.out.2 k hlt
   have HE:Hid (l[k]?.getD ⟨#[]⟩∈l):=by unfold Hid;rw[List.getElem?_eq_getElem (by rw[HL.out];exact hlt)];exact List.getElem_mem _
   obtain ⟨s,hs⟩:∃s,s=l[k]?.getD ⟨#[]⟩:=⟨_,rfl⟩
   rw[← hs] at hc HE
   have HS:=Lib.hid hs
   clear hs
   by_cases hg:isGr s=true
   ·have hg2:(s.toList==[103,114,111,117,112])=true:=hg
    have HY:Hid (l.any isGr=true):=List.any_eq_true.2 ⟨s,HE.out,hg⟩
    go_wp2_with fail
    refine bodyPost_ret (v := .bool true) ?_ rfl ⟨by rw[HY.out],Below.refl _ _⟩
    simp[results,Tryz.f73,go_sem]
   ·have hg2:(s.toList==[103,114,111,117,112])=false:=by simpa [isGr] using hg
    go_wp2_with fail
    go_roundw
    case rel=>exact ⟨k+1,by omega,by go_num,fun j hj=>by
     rcases Nat.lt_or_ge j k with e|e
     ·exact hp.out j e
     ·rw[show j=k by omega,← HS.out];simpa using hg,trivial⟩
    case measure=>simp[intOf];omega
  ·have hki:¬(k:Int)<(n:Int):=by omega
   have HY:Hid (l.any isGr=false):=List.any_eq_false.2 fun s hs=>by
    obtain ⟨j,hj,rfl⟩:=List.getElem_of_mem hs
    have:=hp.out j (by rw[HL.out] at hj;omega)
    rw[List.getElem?_eq_getElem hj,Option.getD_some] at this
    rw[this];decide
   go_wp2_with fail
   refine bodyPost_ret (v := .bool false) ?_ rfl ⟨by rw[HY.out],Below.refl _ _⟩
   simp[results,Tryz.f73,go_sem]
theorem names_gr (n:Nat) (cs:List Int):(kNames n cs 7).any isGr=kGrp n cs:=by
 have h:∀i,i<7→isGr (kStr i)=decide (i=6):=by
  decide +kernel
 unfold kNames
 rw[List.any_map]
 cases hk:kGrp n cs with
 | true =>
  rw[List.any_eq_true]
  refine ⟨6,?_,by rw[Function.comp,h 6 (by omega)];rfl⟩
  unfold kindTo
  rw[List.mem_filter]
  exact ⟨List.mem_range.2 (by omega),hk⟩
 | false =>
  rw[List.any_eq_false]
  intro i hi
  unfold kindTo at hi
  rw[List.mem_filter] at hi
  have h7:=List.mem_range.1 hi.1
  rw[Function.comp,h i h7]
  by_cases e:i=6
  ·subst e
   have h2:kGrp n cs=true:=hi.2
   rw[hk] at h2;cases h2
  ·simp[e]
end
section
open Go Go.RowKit
attribute [local go_sem] over_cell
attribute [local go_sem] Oper.semAt_some
theorem kinds_sc {w:World} {l:List ByteArray} {er:Int} {e:Ending} {w':World} (h:KindsE w l er e w') (hl:l.length≤1000):∃a k c,e = .returned (.tuple #[.slice a k c,.int .i64 er])∧SC w' a k l∧Below w.heap.size w w':=by
 obtain ⟨a,c,he,ho,hb⟩:=h
 refine ⟨a,l.length,c,he,⟨⟨rfl,hl⟩,fun k hk=>?_⟩,hb⟩
 obtain ⟨g,cap,x,hv,hx,hc,_,hg,_⟩:=owns_free ho k hk
 simp only[Value.slice.injEq,true_and] at hv
 obtain ⟨rfl,_⟩:=hv
 refine ⟨g,0,rfl,hg,?_⟩
 rw[List.getElem?_map,List.getElem?_eq_getElem hk,Option.map_some] at hx
 rw[Nat.zero_add,hc,List.getElem?_eq_getElem hk,Option.getD_some]
 exact hx.symm
end
section
open Go Go.RowKit
attribute [local go_sem] over_cell
attribute [local go_sem] Oper.semAt_some
theorem cpE_val (p:List Int) (r:Int):cpE p r=if (p.length:Int)=r then (if permE p=0 then 0 else 14) else 2:=by
 unfold cpE
 by_cases h:(p.length:Int)=r
 ·rw[if_pos h,show ((p.length:Int) != r)=false by simpa using h]
  by_cases h2:permE p=0
  ·rw[if_pos h2,h2];rfl
  ·rw[if_neg h2,show (permE p != 0)=true by simpa using h2];rfl
 ·rw[if_neg h,show ((p.length:Int) != r)=true by simpa using h];rfl
theorem rckperm_c (a:Option Addr) (n c:Nat) (p:List Int) (r:Int) (w:World) (h:IC w a n p) :
  Calls Tryz.prog 86 #[.slice a n c,.int .i64 r] w fun e w'=>e = .returned (.int .i64 (cpE p r))∧Below w.heap.size w w':=by
 have HP:=Lib.hid (rperm_c a n c p w h)
 have hl:=h.len
 rw[cpE_val,hl]
 have HL:=Lib.hid hl
 clear h hl
 by_cases hr:(n:Int)=r
 ·have hd:((n:Int) != r)=false:=by simpa using hr
  rw[if_pos hr]
  by_cases h0:permE p=0
  ·rw[if_pos h0]
   rw[h0] at HP
   clear hr
   go_enter Tryz.func86,Tryz.ntmps86
   go_wp2_with (first|(go_at_call 152;(with_reducible refine HP.out.mono ?_);rintro _ w1 ⟨rfl,hb1⟩)|fail)
   go_ret
   exact ⟨rfl,hb1⟩
  ·rw[if_neg h0]
   have h0':(permE p != 0)=true:=by simpa using h0
   generalize permE p=pe at HP h0'
   clear hr h0
   go_enter Tryz.func86,Tryz.ntmps86
   go_wp2_with (first|(go_at_call 152;(with_reducible refine HP.out.mono ?_);rintro _ w1 ⟨rfl,hb1⟩)|fail)
   go_ret
   exact ⟨rfl,hb1⟩
 ·have hd:((n:Int) != r)=true:=by simpa using hr
  rw[if_neg hr]
  clear hr
  go_enter Tryz.func86,Tryz.ntmps86
  go_wp2_with fail
  go_ret
  exact ⟨rfl,Below.refl _ _⟩
end
section
open Go Go.RowKit
attribute [local go_sem] over_cell
attribute [local go_sem] Oper.semAt_some
def triN (n:Nat) (cs:List Int) (c:Nat):Nat→Nat
 | 0=>c / n
 | 1=>c % n
 | _=>nat cs c
def conG (x:Int) (n q0 q1 q2:Nat) (cs:List Int) (k:Nat):List Int:=putAll ((List.range k).map fun c=>(triN n cs c q0*n+triN n cs c q1,(triN n cs c q2:Int))) (List.replicate (n*n) x)
def conL (x:Int) (n q0 q1 q2:Nat) (cs:List Int):List Int:=conG x n q0 q1 q2 cs (n*n)
theorem conG_succ (x:Int) (n q0 q1 q2:Nat) (cs:List Int) (k:Nat):conG x n q0 q1 q2 cs (k+1)=(conG x n q0 q1 q2 cs k).set (triN n cs k q0*n+triN n cs k q1) (triN n cs k q2:Int):=by
 unfold conG
 rw[List.range_succ,List.map_append,List.map_singleton,putAll_snoc]
theorem conG_len (x:Int) (n q0 q1 q2:Nat) (cs:List Int) (k:Nat):(conG x n q0 q1 q2 cs k).length=n*n:=by unfold conG;rw[putAll_len,List.length_replicate]
theorem triN_lt {n:Nat} {cs:List Int} (L:Latin n cs) {c:Nat} (hc:c<n*n):∀q,triN n cs c q<n
 | 0=>(cell_parts hc).1
 | 1=>(cell_parts hc).2.1
 | _+2=>(L.nat hc).2
def Perm3 (q0 q1 q2:Nat):Prop:=q0<3∧q1<3∧q2<3∧q0≠q1∧q0≠q2∧q1≠q2
theorem Perm3.cases {q0 q1 q2:Nat} (h:Perm3 q0 q1 q2):(q0=0∧q1=1∧q2=2)∨(q0=0∧q1=2∧q2=1)∨(q0=1∧q1=0∧q2=2)∨(q0=1∧q1=2∧q2=0)∨(q0=2∧q1=0∧q2=1)∨(q0=2∧q1=1∧q2=0):=by
 obtain ⟨h1,h2,h3,h4,h5,h6⟩:=h
 omega
theorem tri_onto {n:Nat} {cs:List Int} (L:Latin n cs) {q0 q1 q2:Nat} (hq:Perm3 q0 q1 q2) {u v:Nat} (hu:u<n) (hv:v<n):∃c,c<n*n∧triN n cs c q0=u∧triN n cs c q1=v:=by
 rcases hq.cases with ⟨rfl,rfl,rfl⟩|⟨rfl,rfl,rfl⟩|⟨rfl,rfl,rfl⟩|⟨rfl,rfl,rfl⟩|⟨rfl,rfl,rfl⟩|⟨rfl,rfl,rfl⟩
 ·exact ⟨u*n+v,gcell_lt hu hv,(gcell_div hv).1,(gcell_div hv).2⟩
 ·obtain ⟨j,hj,e⟩:=L.ron hu hv
  exact ⟨u*n+j,gcell_lt hu hj,(gcell_div hj).1,e⟩
 ·exact ⟨v*n+u,gcell_lt hv hu,(gcell_div hu).2,(gcell_div hu).1⟩
 ·obtain ⟨i,hi,e⟩:=L.con hu hv
  exact ⟨i*n+u,gcell_lt hi hu,(gcell_div hu).2,e⟩
 ·obtain ⟨j,hj,e⟩:=L.ron hv hu
  exact ⟨v*n+j,gcell_lt hv hj,e,(gcell_div hj).1⟩
 ·obtain ⟨i,hi,e⟩:=L.con hv hu
  exact ⟨i*n+v,gcell_lt hi hv,e,(gcell_div hv).2⟩
end
end Go.Proofs.YtmfpdakaeagdpaaGreat
