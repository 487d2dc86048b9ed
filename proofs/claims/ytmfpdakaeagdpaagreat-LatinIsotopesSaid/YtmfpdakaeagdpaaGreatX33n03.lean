/- Texts J145 to J159 of this proof, in one file. -/
import Derived.Test.YtmfpdakaeagdpaaGreatW01
import Derived.Test.YtmfpdakaeagdpaaGreatW02
import Derived.Test.YtmfpdakaeagdpaaGreatW03
import Derived.Test.YtmfpdakaeagdpaaGreatW04
import Derived.Test.YtmfpdakaeagdpaaGreatW05
import Derived.Test.YtmfpdakaeagdpaaGreatW06
import Derived.Test.YtmfpdakaeagdpaaGreatW07
import Derived.Test.YtmfpdakaeagdpaaGreatW08
import Derived.Test.YtmfpdakaeagdpaaGreatW09
import Derived.Test.YtmfpdakaeagdpaaGreatW10
import Derived.Test.YtmfpdakaeagdpaaGreatW11
import Derived.Test.YtmfpdakaeagdpaaGreatW12
import Derived.Test.YtmfpdakaeagdpaaGreatW13
import Derived.Test.YtmfpdakaeagdpaaGreatW14
import Derived.Test.YtmfpdakaeagdpaaGreatW15
import Derived.Test.YtmfpdakaeagdpaaGreatW16
import Derived.Test.YtmfpdakaeagdpaaGreatW17
import Derived.Test.YtmfpdakaeagdpaaGreatW18
import Derived.Test.YtmfpdakaeagdpaaGreatW19
import Derived.Test.YtmfpdakaeagdpaaGreatW20
import Derived.Test.YtmfpdakaeagdpaaGreatW21
import Derived.Test.YtmfpdakaeagdpaaGreatW22
import Derived.Test.YtmfpdakaeagdpaaGreatW23
import Derived.Test.YtmfpdakaeagdpaaGreatW24
import Derived.Test.YtmfpdakaeagdpaaGreatW25
import Derived.Test.YtmfpdakaeagdpaaGreatW26
import Derived.Test.YtmfpdakaeagdpaaGreatW27
import Derived.Test.YtmfpdakaeagdpaaGreatX33n01
import Derived.Test.YtmfpdakaeagdpaaGreatX33n02
import Derived.Below
import Derived.BigFrame
import Derived.BigQuiet
import Derived.Deep.CutBlock
import Derived.Deep.CutRange
import Derived.Deep.LoopGhost
import Derived.Deep.Matrix
import Derived.Deep.Quiet
import Derived.Deep.RegionHeld3
import Derived.DeepKeys4
import Derived.KernelRfl
import Derived.Laws.BitsAllLaws
import Derived.Laws.EntriesVeiled
import Derived.Laws.IdiomArrays
import Derived.Lib.AppendZeros
import Derived.Lib.Hide
import Derived.Lib.SlKeysI
import Derived.Lib.SliceRun
import Derived.Lib.SmallJoins
import Derived.LoopIn
import Derived.LoopNIn
import Derived.Maps.AppendAt
import Derived.Maps.OwnIn
import Derived.Maps.OwnSet
import Derived.OneCell
import Derived.OrdersHeld
import Derived.OrdersIn
import Derived.OwnWalkIn
import Derived.ProofKit
import Derived.RangeFuncBound
import Derived.RangeFuncBox
import Derived.RangeFuncCalls
import Derived.RangeFuncLeaves
import Derived.RangeFuncNested
import Derived.RangeFuncWrites
import Derived.Shelf.Abstract
import Derived.Shelf.SortM.Plain
import Derived.SizedLaws
import Derived.Still
import Derived.TacticsIn
import Derived.TacticsInMore
import Derived.Test.YtmfpdakaeagdpaaGreatProg
import Derived.WalkKit
import Derived.WalkLawsBesides
import Derived.WalkSpells
import Derived.WideKeyPair
namespace Go.Proofs.YtmfpdakaeagdpaaGreat
set_option maxRecDepth 100000
set_option maxHeartbeats 16000000
section
open Go Go.RowKit
attribute [local go_sem] over_cell
attribute [local go_sem] Oper.semAt_some
theorem cj1_c (i j:Int) (w:World):Calls Tryz.prog 151 #[.int .i64 i,.int .i64 j] w fun e w'=>e = .returned (.int .i64 (-1))∧Below w.heap.size w w':=by
 go_enter Tryz.func151,Tryz.ntmps151
 go_wp2
 go_ret
 exact ⟨rfl,Below.refl _ _⟩
theorem enterCj:∀args w,Sem.run Tryz.prog (callFunc 151 args) w = .ok (.enter 151 args) w:=by
 intro args w;kernel_rfl
def cjF (r C:Int) (cs:List Int) (p0 p1 p2:Int):Int:=firstL [sqE 0 r C cs,cpE [p0,p1,p2] 3]
structure CjI (w:World) (b b9 g m cap:Nat) (n:Int) (xs:List Int) (W:World):Prop where
 q0:W.heap[b]?=some (.cells #[.int .i64 0,.int .i64 0,.slice none 0 0] 24 (0,0))
 q9:W.heap[b9]?=some (.cells #[.int .i64 n,.int .i64 n,.slice (some ⟨g,0,none⟩) m cap] 24 (0,0))
 o:OI W (b+1) g m cap xs
 bl:Below w.heap.size w W
 ne:w.heap.size≤b∧b<g∧g<b9
theorem CjI.set {w:World} {b b9 g m cap:Nat} {n:Int} {xs:List Int} {W:World} (h:CjI w b b9 g m cap n xs W) (k:Nat) (x:Int):CjI w b b9 g m cap n (xs.set k x) (W.setCell ⟨g,k,none⟩ (.int .i64 x)) where
 q0:=q_other h.q0 (by have:=h.ne;omega) _
 q9:=q_other h.q9 (by have:=h.ne;omega) _
 o:=h.o.set k x
 bl:=h.bl.setCell (p:=⟨g,k,none⟩) (by have:=h.ne;show w.heap.size≤g;omega) _
 ne:=h.ne
theorem CjI.keep {w:World} {b b9 g m cap:Nat} {n:Int} {xs:List Int} {W W':World} (h:CjI w b b9 g m cap n xs W) (hb:Below W.heap.size W W'):CjI w b b9 g m cap n xs W' where
 q0:=keepq hb h.q0
 q9:=keepq hb h.q9
 o:=h.o.keep hb
 bl:=keep_trans h.bl hb
 ne:=h.ne
theorem CjI.drew {w:World} {b b9 g m cap:Nat} {n:Int} {xs:List Int} {W:World} (h:CjI w b b9 g m cap n xs W):CjI w b b9 g m cap n xs W.drew:=h.keep (Below.refl _ _).drew
theorem CjI.fin {w:World} {b b9 g m cap:Nat} {n:Int} {xs:List Int} {W:World} (h:CjI w b b9 g m cap n xs W) :
  (((W.setCell ⟨b,0,none⟩ (.int .i64 n)).setCell ⟨b,1,none⟩ (.int .i64 n)).setCell ⟨b,2,none⟩ (.slice (some ⟨g,0,none⟩) m cap)).heap[b]?=some (.cells #[.int .i64 n,.int .i64 n,.slice (some ⟨g,0,none⟩) m cap] 24 (0,0)) ∧
  OI (((W.setCell ⟨b,0,none⟩ (.int .i64 n)).setCell ⟨b,1,none⟩ (.int .i64 n)).setCell ⟨b,2,none⟩ (.slice (some ⟨g,0,none⟩) m cap)) w.heap.size g m cap xs ∧
  Below w.heap.size w (((W.setCell ⟨b,0,none⟩ (.int .i64 n)).setCell ⟨b,1,none⟩ (.int .i64 n)).setCell ⟨b,2,none⟩ (.slice (some ⟨g,0,none⟩) m cap)) :=
 ⟨st3_q h.q0,(((h.o.other (by have:=h.ne;omega) _).other (by have:=h.ne;omega) _).other (by have:=h.ne;omega) _).base (by have:=h.ne;omega),st3_below h.bl h.ne.1⟩
theorem ic_box3 {w:World} {b:Nat} {x y z:Int} {T:TypeId} (h:w.heap[b]?=some (.cells #[.int .i64 x,.int .i64 y,.int .i64 z] T (0,0))):IC w (some ⟨b,0,none⟩) 3 [x,y,z] :=
 ⟨⟨rfl,by omega⟩,fun k hk=>⟨b,0,rfl,q_lt h,by
  rw[Nat.zero_add]
  match k,hk with
  | 0,_=>exact q_cell h 0
  | 1,_=>exact q_cell h 1
  | 2,_=>exact q_cell h 2⟩⟩
theorem conj_bad (r C:Int) (a:Option Addr) (n c:Nat) (cs:List Int) (p0 p1 p2:Int) (w:World) (h:IC w a n cs) (er:Int) (he:cjF r C cs p0 p1 p2=er) (h0:er≠0) :
  Calls Tryz.prog 85 #[.agg #[.int .i64 r,.int .i64 C,.slice a n c],.agg #[.int .i64 p0,.int .i64 p1,.int .i64 p2]] w (GridE w 0 0 [] er):=by
 have HK:=Lib.hid (fun W (hb:Below w.heap.size w W)=>latcheck_c r C a n c cs W (h.mono hb))
 have HF:Hid (firstL [sqE 0 r C cs,cpE [p0,p1,p2] 3]=er):=he
 have h0':(er != 0)=true:=by simpa using h0
 clear he h h0
 go_enter Tryz.func85,Tryz.ntmps85
 go_upto_region 1 with fail
 have fsz:(((w.alloc (.cells #[.int .i64 r,.int .i64 C,.slice a n c] 24)).alloc (.cells #[.int .i64 p0,.int .i64 p1,.int .i64 p2] 96)).alloc (.cells #[.int .i64 0,.int .i64 0,.slice none 0 0] 24)).heap.size=w.heap.size+3:=by simp only[World.size_alloc] <;> omega
 have fB:Below w.heap.size w (((w.alloc (.cells #[.int .i64 r,.int .i64 C,.slice a n c] 24)).alloc (.cells #[.int .i64 p0,.int .i64 p1,.int .i64 p2] 96)).alloc (.cells #[.int .i64 0,.int .i64 0,.slice none 0 0] 24)):=(((Below.refl _ _).alloc (Nat.le_refl _) _).alloc (by simp only[World.size_alloc];omega) _).alloc (by simp only[World.size_alloc];omega) _
 have fq0:(((w.alloc (.cells #[.int .i64 r,.int .i64 C,.slice a n c] 24)).alloc (.cells #[.int .i64 p0,.int .i64 p1,.int .i64 p2] 96)).alloc (.cells #[.int .i64 0,.int .i64 0,.slice none 0 0] 24)).heap[w.heap.size]?=some (.cells #[.int .i64 r,.int .i64 C,.slice a n c] 24 (0,0)):=by have h:=World.alloc_heap_new w (.cells #[.int .i64 r,.int .i64 C,.slice a n c] 24);exact (Below.heap_alloc _ _ _ (by simp only[World.size_alloc];omega)).trans ((Below.heap_alloc _ _ _ (by simp only[World.size_alloc];omega)).trans (h))
 have fq1:(((w.alloc (.cells #[.int .i64 r,.int .i64 C,.slice a n c] 24)).alloc (.cells #[.int .i64 p0,.int .i64 p1,.int .i64 p2] 96)).alloc (.cells #[.int .i64 0,.int .i64 0,.slice none 0 0] 24)).heap[w.heap.size+1]?=some (.cells #[.int .i64 p0,.int .i64 p1,.int .i64 p2] 96 (0,0)):=by have h:=World.alloc_heap_new (w.alloc (.cells #[.int .i64 r,.int .i64 C,.slice a n c] 24)) (.cells #[.int .i64 p0,.int .i64 p1,.int .i64 p2] 96);simp only[World.size_alloc] at h;exact (Below.heap_alloc _ _ _ (by simp only[World.size_alloc];omega)).trans (h)
 have fq2:(((w.alloc (.cells #[.int .i64 r,.int .i64 C,.slice a n c] 24)).alloc (.cells #[.int .i64 p0,.int .i64 p1,.int .i64 p2] 96)).alloc (.cells #[.int .i64 0,.int .i64 0,.slice none 0 0] 24)).heap[w.heap.size+1+1]?=some (.cells #[.int .i64 0,.int .i64 0,.slice none 0 0] 24 (0,0)):=by have h:=World.alloc_heap_new ((w.alloc (.cells #[.int .i64 r,.int .i64 C,.slice a n c] 24)).alloc (.cells #[.int .i64 p0,.int .i64 p1,.int .i64 p2] 96)) (.cells #[.int .i64 0,.int .i64 0,.slice none 0 0] 24);simp only[World.size_alloc] at h;exact h
 generalize (((w.alloc (.cells #[.int .i64 r,.int .i64 C,.slice a n c] 24)).alloc (.cells #[.int .i64 p0,.int .i64 p1,.int .i64 p2] 96)).alloc (.cells #[.int .i64 0,.int .i64 0,.slice none 0 0] 24))=W0 at fsz fB fq0 fq1 fq2 ⊢
 obtain ⟨x0,x1,x2,xl⟩:=c3_of fq0
 obtain ⟨y0,y1,y2,yl⟩:=c3_of fq1
 have Q0:=Lib.hid fq0
 have Q1:=Lib.hid fq1
 have Q2:=Lib.hid fq2
 have HCB:=Lib.hid fB
 have hs0:w.heap.size+3=W0.heap.size:=fsz.symm
 have HCP:=Lib.hid (fun W (hb:Below W0.heap.size W0 W)=>ckperm_c (some ⟨w.heap.size+1,0,none⟩) 3 3 [p0,p1,p2] 3 W ((ic_box3 Q1.out).mono hb))
 generalize cpE [p0,p1,p2] 3=e3 at HCP HF
 clear fsz fq0 fq1 fq2
 refine wp_region_S (fun w'=>∃u,w'=over (W0) u) [6,5,4,3] [(0,0),(0,2),(1,1),(2,3),(2,4),(2,5),(2,6)] (by kernel_rfl) (by kernel_rfl) (by exact ⟨_,below_over (by repeat (first|assumption|exact Below.refl _ _|refine keep_drew ?_|refine keep_alloc ?_ _|refine keep_trans ?_ (by assumption)))⟩) ?_
 dsimp only[pickOps,nthOp]
 repeat (first|(refine wpS_skip rfl (fun K hK=>?_);go_big_quiet_op;refine hK _ ?_;clear hK K)|(refine wpS_quiet rfl rfl (fun K hK=>?_);go_big_quiet_op;refine hK _ ?_;clear hK K)|(refine wpS_loud ?_;go_wp2_with (first|(go_at_call 58;refine (HK.out _ (keep_trans fB (by (repeat (first|assumption|exact Below.refl _ _|refine keep_drew ?_|refine keep_alloc ?_ _|refine keep_trans ?_ (by assumption)))))).mono ?_;rintro _ w1 ⟨rfl,hb1⟩)|(go_at_call 149;with_reducible refine (HCP.out _ (by (repeat (first|assumption|exact Below.refl _ _|refine keep_drew ?_|refine keep_alloc ?_ _|refine keep_trans ?_ (by assumption))))).mono ?_;rintro _ w2 ⟨rfl,hb2⟩)|(go_at_call 92;refine (tfirst_c _ _ _ _ _ (IC.new2 _ _ _ _)).mono ?_;rw[HF.out];rintro _ w3 ⟨rfl,rfl⟩)|fail);refine ⟨?_,?_⟩;focus (exact ⟨_,below_over (by repeat (first|assumption|exact Below.refl _ _|refine keep_drew ?_|refine keep_alloc ?_ _|refine keep_trans ?_ (by assumption)))⟩)))
 refine wpS_late _ _ _ rfl ?_
 dsimp only[List.map]
 go_wp2_with (first|(go_at_call 58;refine (HK.out _ (keep_trans fB (by (repeat (first|assumption|exact Below.refl _ _|refine keep_drew ?_|refine keep_alloc ?_ _|refine keep_trans ?_ (by assumption)))))).mono ?_;rintro _ w1 ⟨rfl,hb1⟩)|(go_at_call 149;with_reducible refine (HCP.out _ (by (repeat (first|assumption|exact Below.refl _ _|refine keep_drew ?_|refine keep_alloc ?_ _|refine keep_trans ?_ (by assumption))))).mono ?_;rintro _ w2 ⟨rfl,hb2⟩)|(go_at_call 92;refine (tfirst_c _ _ _ _ _ (IC.new2 _ _ _ _)).mono ?_;rw[HF.out];rintro _ w3 ⟨rfl,rfl⟩)|fail)
 refine NoPanic.normal ?_
 have hB2:Below W0.heap.size W0 (w2.alloc (.cells #[.int .i64 (sqE 0 r C cs),.int .i64 e3] 27)):=by (repeat (first|assumption|exact Below.refl _ _|refine keep_drew ?_|refine keep_alloc ?_ _|refine keep_trans ?_ (by assumption)))
 have HB2:=Lib.hid (keep_trans HCB.out hB2)
 have P0:=Lib.hid (keepq hB2 Q0.out)
 have P1:=Lib.hid (keepq hB2 Q1.out)
 have P2:=Lib.hid (keepq hB2 Q2.out)
 have hs2:=hB2.size
 clear hB2 hb1 hb2 fB x0 x1 x2 xl y0 y1 y2 yl
 generalize (w2.alloc (.cells #[.int .i64 (sqE 0 r C cs),.int .i64 e3] 27))=W2 at HB2 P0 P1 P2 hs2 ⊢
 obtain ⟨x0,x1,x2,xl⟩:=c3_of P0.out
 obtain ⟨y0,y1,y2,yl⟩:=c3_of P2.out
 obtain ⟨yf0,yf1,yf2⟩:=f3_of P2.out
 go_wp2_with fail
 have g3:=st3_q (x0 := .int .i64 0) (x1 := .int .i64 0) (x2 := .slice none 0 0) P2.out
 have hb3:=st3_below (x0 := .int .i64 0) (x1 := .int .i64 0) (x2 := .slice none 0 0) (b:=w.heap.size+2) HB2.out (by omega)
 obtain ⟨z0,z1,z2,zl⟩:=c3_of g3
 refine bodyPost_ret (v := .tuple #[.agg #[.int .i64 0,.int .i64 0,.slice none 0 0],.int .i64 (er)]) ?_ rfl ⟨none,0,rfl,World.ownsRow_nil _ _ _ _,(by first|exact hb3|exact hb3.drew)⟩
 simp[results,Tryz.f85,go_sem,z0,z1,z2]
theorem cp3_ok {p0 p1 p2:Int} (h:cpE [p0,p1,p2] 3=0):∃q0 q1 q2:Nat,p0=(q0:Int)∧p1=(q1:Int)∧p2=(q2:Int)∧Perm3 q0 q1 q2:=by
 have h1:=cpE_val [p0,p1,p2] 3
 rw[h,if_pos (by simp)] at h1
 have hp:permE [p0,p1,p2]=0:=by
  by_cases e:permE [p0,p1,p2]=0
  ·exact e
  ·rw[if_neg e] at h1;exact absurd h1 (by decide)
 have P:=(perm_ok hp).2
 have b0:=P.num 0 (by simp)
 have b1:=P.num 1 (by simp)
 have b2:=P.num 2 (by simp)
 have i01:=P.inj 0 1 (by simp) (by simp)
 have i02:=P.inj 0 2 (by simp) (by simp)
 have i12:=P.inj 1 2 (by simp) (by simp)
 simp at b0 b1 b2 i01 i02 i12
 refine ⟨p0.toNat,p1.toNat,p2.toNat,by omega,by omega,by omega,by omega,by omega,by omega,?_,?_,?_⟩
 ·intro e;exact i01 (by omega)
 ·intro e;exact i02 (by omega)
 ·intro e;exact i12 (by omega)
def cjL (r C:Int) (cs:List Int) (p0 p1 p2:Int):List Int:=if cjF r C cs p0 p1 p2=0 then conL (-1) r.toNat p0.toNat p1.toNat p2.toNat cs else []
theorem conj_ok (N nn:Nat) (hnn:nn=N*N) (a:Option Addr) (c:Nat) (cs:List Int) (q0 q1 q2:Nat) (h3:Perm3 q0 q1 q2) (w:World) (h:IC w a nn cs) (L:Latin N cs) (he:cjF (N:Int) (N:Int) cs (q0:Int) (q1:Int) (q2:Int)=0) (Y:List Int) (hY:Y=conL (-1) N q0 q1 q2 cs) :
  Calls Tryz.prog 85 #[.agg #[.int .i64 (N:Int),.int .i64 (N:Int),.slice a nn c],.agg #[.int .i64 (q0:Int),.int .i64 (q1:Int),.int .i64 (q2:Int)]] w (GridE w (N:Int) (N:Int) Y 0):=by
 have HK:=Lib.hid (fun W (hb:Below w.heap.size w W)=>latcheck_c (N:Int) (N:Int) a nn c cs W (h.mono hb))
 obtain ⟨p0,hp0⟩:∃p0,p0=(q0:Int):=⟨_,rfl⟩
 obtain ⟨p1,hp1⟩:∃p1,p1=(q1:Int):=⟨_,rfl⟩
 obtain ⟨p2,hp2⟩:∃p2,p2=(q2:Int):=⟨_,rfl⟩
 rw[← hp0,← hp1,← hp2] at he ⊢
 have HP0:=Lib.hid hp0
 have HP1:=Lib.hid hp1
 have HP2:=Lib.hid hp2
 have HF:Hid (firstL [sqE 0 (N:Int) (N:Int) cs,cpE [p0,p1,p2] 3]=0):=he
 have hN1:=L.pos
 have hN2:=L.le
 obtain ⟨h30,h31,h32,_⟩:=h3
 have hmm:nn≤256:=by rw[hnn];exact Nat.mul_le_mul hN2 hN2
 have HT3:Hid (∀k,k<nn→∀q,triN N cs k q<N):=fun k hk=>triN_lt L (by omega)
 have HCS:Hid (∀k,k<nn→cs[k]?.getD 0=(nat cs k:Int)):=fun k hk=>(L.nat (by omega)).1
 have HGS:=Lib.hid (conG_succ (-1) N q0 q1 q2 cs)
 have HGL:Hid (∀k,(conG (-1) N q0 q1 q2 cs k).length=nn):=fun k=>by rw[conG_len,hnn]
 have HGE:Hid (conG (-1) N q0 q1 q2 cs nn=Y):=by unfold Hid;rw[hY,hnn];rfl
 have HMD:=Lib.hid (fun W=>made_g N (by omega) 151 #[] #[] (fun _ _ => -1) (conG (-1) N q0 q1 q2 cs 0) W (by rw[made_const];rfl) enterCj (fun i j _ _ W' _=>cj1_c i j W'))
 have HLT:Hid (∀p q,p<N→q<N→p*N+q<nn):=fun p q hp hq=>by rw[hnn];exact gcell_lt hp hq
 have hpos:1≤nn:=by rw[hnn];exact Nat.mul_pos hN1 hN1
 obtain ⟨b,off,ha,hbl,_⟩:=h.2 0 (by omega)
 have HI:=Lib.hid h
 have HBL:=Lib.hid hbl
 subst ha
 clear h hnn L he hY hp0 hp1 hp2
 have hne:(N:Int)≠0:=by omega
 go_enter Tryz.func85,Tryz.ntmps85
 go_upto_region 1 with fail
 have fsz:(((w.alloc (.cells #[.int .i64 (N:Int),.int .i64 (N:Int),.slice (some ⟨b,off,none⟩) nn c] 24)).alloc (.cells #[.int .i64 p0,.int .i64 p1,.int .i64 p2] 96)).alloc (.cells #[.int .i64 0,.int .i64 0,.slice none 0 0] 24)).heap.size=w.heap.size+3:=by simp only[World.size_alloc] <;> omega
 have fB:Below w.heap.size w (((w.alloc (.cells #[.int .i64 (N:Int),.int .i64 (N:Int),.slice (some ⟨b,off,none⟩) nn c] 24)).alloc (.cells #[.int .i64 p0,.int .i64 p1,.int .i64 p2] 96)).alloc (.cells #[.int .i64 0,.int .i64 0,.slice none 0 0] 24)):=(((Below.refl _ _).alloc (Nat.le_refl _) _).alloc (by simp only[World.size_alloc];omega) _).alloc (by simp only[World.size_alloc];omega) _
 have fq0:(((w.alloc (.cells #[.int .i64 (N:Int),.int .i64 (N:Int),.slice (some ⟨b,off,none⟩) nn c] 24)).alloc (.cells #[.int .i64 p0,.int .i64 p1,.int .i64 p2] 96)).alloc (.cells #[.int .i64 0,.int .i64 0,.slice none 0 0] 24)).heap[w.heap.size]?=some (.cells #[.int .i64 (N:Int),.int .i64 (N:Int),.slice (some ⟨b,off,none⟩) nn c] 24 (0,0)):=by have h:=World.alloc_heap_new w (.cells #[.int .i64 (N:Int),.int .i64 (N:Int),.slice (some ⟨b,off,none⟩) nn c] 24);exact (Below.heap_alloc _ _ _ (by simp only[World.size_alloc];omega)).trans ((Below.heap_alloc _ _ _ (by simp only[World.size_alloc];omega)).trans (h))
 have fq1:(((w.alloc (.cells #[.int .i64 (N:Int),.int .i64 (N:Int),.slice (some ⟨b,off,none⟩) nn c] 24)).alloc (.cells #[.int .i64 p0,.int .i64 p1,.int .i64 p2] 96)).alloc (.cells #[.int .i64 0,.int .i64 0,.slice none 0 0] 24)).heap[w.heap.size+1]?=some (.cells #[.int .i64 p0,.int .i64 p1,.int .i64 p2] 96 (0,0)):=by have h:=World.alloc_heap_new (w.alloc (.cells #[.int .i64 (N:Int),.int .i64 (N:Int),.slice (some ⟨b,off,none⟩) nn c] 24)) (.cells #[.int .i64 p0,.int .i64 p1,.int .i64 p2] 96);simp only[World.size_alloc] at h;exact (Below.heap_alloc _ _ _ (by simp only[World.size_alloc];omega)).trans (h)
 have fq2:(((w.alloc (.cells #[.int .i64 (N:Int),.int .i64 (N:Int),.slice (some ⟨b,off,none⟩) nn c] 24)).alloc (.cells #[.int .i64 p0,.int .i64 p1,.int .i64 p2] 96)).alloc (.cells #[.int .i64 0,.int .i64 0,.slice none 0 0] 24)).heap[w.heap.size+1+1]?=some (.cells #[.int .i64 0,.int .i64 0,.slice none 0 0] 24 (0,0)):=by have h:=World.alloc_heap_new ((w.alloc (.cells #[.int .i64 (N:Int),.int .i64 (N:Int),.slice (some ⟨b,off,none⟩) nn c] 24)).alloc (.cells #[.int .i64 p0,.int .i64 p1,.int .i64 p2] 96)) (.cells #[.int .i64 0,.int .i64 0,.slice none 0 0] 24);simp only[World.size_alloc] at h;exact h
 generalize (((w.alloc (.cells #[.int .i64 (N:Int),.int .i64 (N:Int),.slice (some ⟨b,off,none⟩) nn c] 24)).alloc (.cells #[.int .i64 p0,.int .i64 p1,.int .i64 p2] 96)).alloc (.cells #[.int .i64 0,.int .i64 0,.slice none 0 0] 24))=W0 at fsz fB fq0 fq1 fq2 ⊢
 obtain ⟨x0,x1,x2,xl⟩:=c3_of fq0
 obtain ⟨y0,y1,y2,yl⟩:=c3_of fq1
 have Q0:=Lib.hid fq0
 have Q1:=Lib.hid fq1
 have Q2:=Lib.hid fq2
 have HCB:=Lib.hid fB
 have hs0:w.heap.size+3=W0.heap.size:=fsz.symm
 have HCP:=Lib.hid (fun W (hb:Below W0.heap.size W0 W)=>ckperm_c (some ⟨w.heap.size+1,0,none⟩) 3 3 [p0,p1,p2] 3 W ((ic_box3 Q1.out).mono hb))
 generalize cpE [p0,p1,p2] 3=e3 at HCP HF
 clear fsz fq0 fq1 fq2
 refine wp_region_S (fun w'=>∃u,w'=over (W0) u) [6,5,4,3] [(0,0),(0,2),(1,1),(2,3),(2,4),(2,5),(2,6)] (by kernel_rfl) (by kernel_rfl) (by exact ⟨_,below_over (by repeat (first|assumption|exact Below.refl _ _|refine keep_drew ?_|refine keep_alloc ?_ _|refine keep_trans ?_ (by assumption)))⟩) ?_
 dsimp only[pickOps,nthOp]
 repeat (first|(refine wpS_skip rfl (fun K hK=>?_);go_big_quiet_op;refine hK _ ?_;clear hK K)|(refine wpS_quiet rfl rfl (fun K hK=>?_);go_big_quiet_op;refine hK _ ?_;clear hK K)|(refine wpS_loud ?_;go_wp2_with (first|(go_at_call 58;refine (HK.out _ (keep_trans fB (by (repeat (first|assumption|exact Below.refl _ _|refine keep_drew ?_|refine keep_alloc ?_ _|refine keep_trans ?_ (by assumption)))))).mono ?_;rintro _ w1 ⟨rfl,hb1⟩)|(go_at_call 149;with_reducible refine (HCP.out _ (by (repeat (first|assumption|exact Below.refl _ _|refine keep_drew ?_|refine keep_alloc ?_ _|refine keep_trans ?_ (by assumption))))).mono ?_;rintro _ w2 ⟨rfl,hb2⟩)|(go_at_call 92;refine (tfirst_c _ _ _ _ _ (IC.new2 _ _ _ _)).mono ?_;rw[HF.out];rintro _ w3 ⟨rfl,rfl⟩)|fail);refine ⟨?_,?_⟩;focus (exact ⟨_,below_over (by repeat (first|assumption|exact Below.refl _ _|refine keep_drew ?_|refine keep_alloc ?_ _|refine keep_trans ?_ (by assumption)))⟩)))
 refine wpS_late _ _ _ rfl ?_
 dsimp only[List.map]
 go_wp2_with (first|(go_at_call 58;refine (HK.out _ (keep_trans fB (by (repeat (first|assumption|exact Below.refl _ _|refine keep_drew ?_|refine keep_alloc ?_ _|refine keep_trans ?_ (by assumption)))))).mono ?_;rintro _ w1 ⟨rfl,hb1⟩)|(go_at_call 149;with_reducible refine (HCP.out _ (by (repeat (first|assumption|exact Below.refl _ _|refine keep_drew ?_|refine keep_alloc ?_ _|refine keep_trans ?_ (by assumption))))).mono ?_;rintro _ w2 ⟨rfl,hb2⟩)|(go_at_call 92;refine (tfirst_c _ _ _ _ _ (IC.new2 _ _ _ _)).mono ?_;rw[HF.out];rintro _ w3 ⟨rfl,rfl⟩)|fail)
 refine NoPanic.normal ?_
 have hB2:Below W0.heap.size W0 (w2.alloc (.cells #[.int .i64 (sqE 0 (N:Int) (N:Int) cs),.int .i64 e3] 27)):=by (repeat (first|assumption|exact Below.refl _ _|refine keep_drew ?_|refine keep_alloc ?_ _|refine keep_trans ?_ (by assumption)))
 have HB2:=Lib.hid (keep_trans HCB.out hB2)
 have P0:=Lib.hid (keepq hB2 Q0.out)
 have P1:=Lib.hid (keepq hB2 Q1.out)
 have P2:=Lib.hid (keepq hB2 Q2.out)
 have hs2:=hB2.size
 clear hB2 hb1 hb2 fB x0 x1 x2 xl y0 y1 y2 yl
 generalize (w2.alloc (.cells #[.int .i64 (sqE 0 (N:Int) (N:Int) cs),.int .i64 e3] 27))=W2 at HB2 P0 P1 P2 hs2 ⊢
 obtain ⟨x0,x1,x2,xl⟩:=c3_of P0.out
 go_upto_region 5 with (first|(go_at_call 94;(with_reducible refine (HMD.out _).mono ?_);rintro _ w5 ⟨a5,c5,rfl,hown5,hb5⟩)|fail)
 rw[HGL.out] at hown5 ⊢
 obtain ⟨g,rfl,ho5⟩:=OI.of (xs:=conG (-1) N q0 q1 q2 cs 0) hown5 hpos
 have hg:=ho5.blk
 have hs5:=hb5.size
 have ksz:(w5.alloc (.cells #[.int .i64 (N:Int),.int .i64 (N:Int),.slice (some ⟨g,0,none⟩) nn c5] 24)).heap.size=w5.heap.size+1:=by simp only[World.size_alloc]
 have kB:Below w5.heap.size w5 (w5.alloc (.cells #[.int .i64 (N:Int),.int .i64 (N:Int),.slice (some ⟨g,0,none⟩) nn c5] 24)):=(Below.refl _ _).alloc (Nat.le_refl _) _
 have kq0:(w5.alloc (.cells #[.int .i64 (N:Int),.int .i64 (N:Int),.slice (some ⟨g,0,none⟩) nn c5] 24)).heap[w5.heap.size]?=some (.cells #[.int .i64 (N:Int),.int .i64 (N:Int),.slice (some ⟨g,0,none⟩) nn c5] 24 (0,0)):=by have h:=World.alloc_heap_new w5 (.cells #[.int .i64 (N:Int),.int .i64 (N:Int),.slice (some ⟨g,0,none⟩) nn c5] 24);exact h
 generalize (w5.alloc (.cells #[.int .i64 (N:Int),.int .i64 (N:Int),.slice (some ⟨g,0,none⟩) nn c5] 24))=W3 at ksz kB kq0 ⊢
 have hb3:=keep_trans hb5 kB
 have HR:Hid (CjI w (w.heap.size+2) w5.heap.size g nn c5 (N:Int) (conG (-1) N q0 q1 q2 cs 0) W3):=⟨keepq hb3 P2.out,kq0,(ho5.keep kB).base (by omega),keep_trans HB2.out hb3,by omega⟩
 have HQ:Hid (W3.heap[w.heap.size]?=_):=keepq hb3 P0.out
 have HP:Hid (W3.heap[w.heap.size+1]?=_):=keepq hb3 P1.out
 have hgb:b≠g:=by have:=HBL.out;omega
 have hgw:w.heap.size≠g:=by omega
 have hgp:w.heap.size+1≠g:=by omega
 clear ksz kq0 kB hb5 ho5 hown5 hg hb3 x0 x1 x2 xl
 generalize w5.heap.size=b9 at HR ⊢
 obtain ⟨y0,y1,y2,yl⟩:=c3_of HQ.out
 go_wp2_with fail
 go_loopw [8,9,10,27] (fun _ _ _ s27 wr=>∃k:Nat,k≤nn∧s27 = .int .i64 (k:Int)∧Hid (CjI w (w.heap.size+2) b9 g nn c5 (N:Int) (conG (-1) N q0 q1 q2 cs k) wr)∧Hid (wr.heap[w.heap.size]?=some (.cells #[.int .i64 (N:Int),.int .i64 (N:Int),.slice (some ⟨b,off,none⟩) nn c] 24 (0,0)))∧Hid (wr.heap[w.heap.size+1]?=some (.cells #[.int .i64 p0,.int .i64 p1,.int .i64 p2] 96 (0,0)))) (fun _ _ _ s27 _=>nn - (intOf s27).toNat)
 case atStart=>exact ⟨0,by omega,rfl,HR,HQ,HP⟩
 case round =>
  obtain ⟨k,hk,rfl,hR,hQ,hP⟩:=hrel
  clear y0 y1 y2 yl
  obtain ⟨x0,x1,x2,xl⟩:=c3_of hR.out.q9
  obtain ⟨y0,y1,y2,yl⟩:=c3_of hQ.out
  by_cases hlt:k<nn
  ·have hki:(k:Int)<(nn:Int):=by omega
   obtain ⟨_,_,e0,hbw,hc⟩:=(HI.out.mono hR.out.bl).2 k hlt
   cases e0
   have e1:(k:Int) / (N:Int)=((k / N:Nat):Int):=(Int.natCast_ediv _ _).symm
   have e2:(k:Int) % (N:Int)=((k % N:Nat):Int):=(Int.natCast_emod _ _).symm
   have d1:k / N<N:=HT3.out k hlt 0
   have d2:k % N<N:=HT3.out k hlt 1
   rw[HCS.out k hlt] at hc
   have HTR:Hid (∀q,q<3→(#[Value.int .i64 ((k / N:Nat):Int),.int .i64 ((k % N:Nat):Int),.int .i64 (nat cs k:Int)]:Array Value)[q]?=some (.int .i64 (triN N cs k q:Int))):=fun q hq=>by
    match q,hq with
    | 0,_=>rfl
    | 1,_=>rfl
    | 2,_=>rfl
   generalize nat cs k=s at hc HTR
   generalize k / N=p at e1 d1 HTR
   generalize k % N=q at e2 d2 HTR
   go_wp2_with fail
   refine wp_region_S (fun w'=>∃u,w'=over (wr) u) [11] [(0,0),(0,1),(0,2),(0,3),(0,4),(0,5),(0,6),(0,7),(0,8),(0,9),(1,10),(2,11)] (by kernel_rfl) (by kernel_rfl) (by exact ⟨_,below_over (by repeat (first|assumption|exact Below.refl _ _|refine keep_drew ?_|refine keep_alloc ?_ _|refine keep_trans ?_ (by assumption)))⟩) ?_
   dsimp only[pickOps,nthOp]
   repeat (first|(refine wpS_skip rfl (fun K hK=>?_);go_big_quiet_op;refine hK _ ?_;clear hK K)|(refine wpS_quiet rfl rfl (fun K hK=>?_);go_big_quiet_op;refine hK _ ?_;clear hK K)|(refine wpS_loud ?_;go_wp2;refine ⟨?_,?_⟩;focus (exact ⟨_,below_over (by repeat (first|assumption|exact Below.refl _ _|refine keep_drew ?_|refine keep_alloc ?_ _|refine keep_trans ?_ (by assumption)))⟩)))
   refine wpS_late _ _ _ rfl ?_
   dsimp only[List.map]
   go_wp2
   refine NoPanic.normal ?_
   have hq6:(wr.alloc (.cells #[.int .i64 (p:Int),.int .i64 (q:Int),.int .i64 (s:Int)] 96)).drew.heap[wr.heap.size]?=some (.cells #[.int .i64 (p:Int),.int .i64 (q:Int),.int .i64 (s:Int)] 96 (0,0)):=World.alloc_heap_new wr _
   have hb6:Below wr.heap.size wr (wr.alloc (.cells #[.int .i64 (p:Int),.int .i64 (q:Int),.int .i64 (s:Int)] 96)).drew:=(keep_alloc (Below.refl _ _) _).drew
   generalize (wr.alloc (.cells #[.int .i64 (p:Int),.int .i64 (q:Int),.int .i64 (s:Int)] 96)).drew=W6 at hq6 hb6 ⊢
   have hR6:=hR.out.keep hb6
   have hQ6:=keepq hb6 hQ.out
   have hP6:=keepq hb6 hP.out
   rw[HP0.out,HP1.out,HP2.out] at hP6
   have c0:=(q_cell hq6 q0).trans (HTR.out q0 h30)
   have c1:=(q_cell hq6 q1).trans (HTR.out q1 h31)
   have c2:=(q_cell hq6 q2).trans (HTR.out q2 h32)
   have hl6:=q_lt hq6
   have u2:=HT3.out k hlt q0
   have v2:=HT3.out k hlt q1
   have HST:=Lib.hid (HGS.out k)
   have hlt2:=HLT.out _ _ u2 v2
   obtain ⟨t0,t1,t2⟩:=hR6.o.at hlt2
   have m1:(triN N cs k q0:Int)*(N:Int)=((triN N cs k q0*N:Nat):Int):=(Int.natCast_mul _ _).symm
   have k1:=Lib.hid (hR6.set (triN N cs k q0*N+triN N cs k q1) (triN N cs k q2:Int))
   rw[← HST.out] at k1
   have k2:=Lib.hid (q_other (i:=triN N cs k q0*N+triN N cs k q1) hQ6 hgw (.int .i64 (triN N cs k q2:Int)))
   have k3:=Lib.hid (q_other (i:=triN N cs k q0*N+triN N cs k q1) (keepq hb6 hP.out) hgp (.int .i64 (triN N cs k q2:Int)))
   generalize (conG (-1) N q0 q1 q2 cs k)[triN N cs k q0*N+triN N cs k q1]?.getD 0=ov at t0
   generalize triN N cs k q2=X at c2 k1 k2 k3
   generalize triN N cs k q1=v at c1 v2 hlt2 t0 t1 k1 k2 k3
   generalize triN N cs k q0=u at c0 u2 m1 hlt2 t0 t1 k1 k2 k3
   generalize u*N=m at m1 hlt2 t0 t1 k1 k2 k3
   have i1:(m:Int)+(v:Int)<(nn:Int):=by omega
   have j0:(q0:Int)<3:=by omega
   have j1:(q1:Int)<3:=by omega
   have j2:(q2:Int)<3:=by omega
   clear HST hq6 hb6 x0 x1 x2 xl y0 y1 y2 yl
   obtain ⟨x0,x1,x2,xl⟩:=c3_of hR6.q9
   obtain ⟨y0,y1,y2,yl⟩:=c3_of hQ6
   obtain ⟨z0,z1,z2,zl⟩:=c3_of hP6
   clear hR6 hQ6 hP6
   go_wp2_with fail
   refine wp_region_S (fun w'=>∃u,w'=over (W6) u) [19] [(0,0),(0,1),(0,2),(0,3),(0,4),(0,5),(0,6),(0,7),(0,8),(0,9),(0,10),(0,11),(0,12),(0,13),(0,14),(0,15),(0,16),(0,17),(0,18),(2,19)] (by kernel_rfl) (by kernel_rfl) (by exact ⟨_,below_over (by repeat (first|assumption|exact Below.refl _ _|refine keep_drew ?_|refine keep_alloc ?_ _|refine keep_trans ?_ (by assumption)))⟩) ?_
   dsimp only[pickOps,nthOp]
   repeat (first|(refine wpS_skip rfl (fun K hK=>?_);go_big_quiet_op;refine hK _ ?_;clear hK K)|(refine wpS_quiet rfl rfl (fun K hK=>?_);go_big_quiet_op;refine hK _ ?_;clear hK K))
   refine wpS_late _ _ _ rfl ?_
   dsimp only[List.map]
   go_wp2
   refine NoPanic.normal ?_
   go_wp2_with fail
   go_roundw
   case rel=>exact ⟨k+1,by omega,by go_num,k1.out.drew,k2.out,k3.out⟩
   case measure=>simp[intOf];omega
  ·have e:k=nn:=by omega
   have hno:¬(k:Int)<(nn:Int):=by omega
   have hR9:=hR.out
   rw[e,HGE.out] at hR9
   have HYL:Hid (Y.length=nn):=by unfold Hid;rw[← HGE.out,HGL.out]
   clear x0 x1 x2 xl
   obtain ⟨x0,x1,x2,xl⟩:=c3_of hR9.q9
   obtain ⟨v0,v1,v2,vl⟩:=c3_of hR9.q0
   obtain ⟨vf0,vf1,vf2⟩:=f3_of hR9.q0
   obtain ⟨t0,t1,t2⟩:=hR9.fin
   obtain ⟨z0,z1,z2,zl⟩:=c3_of t0
   have T1:=Lib.hid t1
   have T2:=Lib.hid t2
   clear e hR9 hR t0 t1 t2
   go_wp2_with fail
   refine bodyPost_ret (v := .tuple #[.agg #[.int .i64 (N:Int),.int .i64 (N:Int),.slice (some ⟨g,0,none⟩) nn c5],.int .i64 0]) ?_ rfl ⟨some ⟨g,0,none⟩,c5,by rw[HYL.out],by rw[HYL.out];exact T1.out.own,T2.out⟩
   simp[results,Tryz.f85,go_sem,z0,z1,z2]
theorem conj_c (r C:Int) (a:Option Addr) (n c:Nat) (cs:List Int) (p0 p1 p2:Int) (w:World) (h:IC w a n cs) :
  Calls Tryz.prog 85 #[.agg #[.int .i64 r,.int .i64 C,.slice a n c],.agg #[.int .i64 p0,.int .i64 p1,.int .i64 p2]] w (GridE w (if cjF r C cs p0 p1 p2=0 then r else 0) (if cjF r C cs p0 p1 p2=0 then r else 0) (cjL r C cs p0 p1 p2) (cjF r C cs p0 p1 p2)):=by
 by_cases h0:cjF r C cs p0 p1 p2=0
 ·have h1:=h0
  unfold cjF at h1
  obtain ⟨N,rfl,rfl,L⟩:=sqE_ok (firstL_cons0 h1).1
  obtain ⟨q0,q1,q2,rfl,rfl,rfl,h3⟩:=cp3_ok (firstL_cons0 (firstL_cons0 h1).2).1
  have hn:n=N*N:=by rw[← h.len];exact L.len
  have hl:cjL (N:Int) (N:Int) cs (q0:Int) (q1:Int) (q2:Int)=conL (-1) N q0 q1 q2 cs:=by
   unfold cjL
   rw[if_pos h0,Int.toNat_natCast,Int.toNat_natCast,Int.toNat_natCast,Int.toNat_natCast]
  rw[if_pos h0,h0]
  exact conj_ok N n hn a c cs q0 q1 q2 h3 w h L h0 _ hl
 ·have hl:cjL r C cs p0 p1 p2=[]:=if_neg h0
  rw[if_neg h0,hl]
  exact conj_bad r C a n c cs p0 p1 p2 w h _ rfl h0
end
section
open Go Go.RowKit
attribute [local go_sem] over_cell
attribute [local go_sem] Oper.semAt_some
theorem c6_of {w:World} {b:Nat} {v0 v1 v2 v3 v4 v5:Value} {T:TypeId} (h:w.heap[b]?=some (.cells #[v0,v1,v2,v3,v4,v5] T (0,0))):w.cell? ⟨b,0,none⟩=some v0∧w.cell? ⟨b,1,none⟩=some v1∧w.cell? ⟨b,2,none⟩=some v2∧w.cell? ⟨b,3,none⟩=some v3∧w.cell? ⟨b,4,none⟩=some v4∧w.cell? ⟨b,5,none⟩=some v5∧b<w.heap.size:=⟨q_cell h 0,q_cell h 1,q_cell h 2,q_cell h 3,q_cell h 4,q_cell h 5,q_lt h⟩
theorem ic_box6 {w:World} {b:Nat} {v0 v1 v2:Value} {x y z:Int} {T:TypeId} (h:w.heap[b]?=some (.cells #[v0,v1,v2,.int .i64 x,.int .i64 y,.int .i64 z] T (0,0))):IC w (some ⟨b,3,none⟩) 3 [x,y,z] :=
 ⟨⟨rfl,by omega⟩,fun k hk=>⟨b,3,rfl,q_lt h,by
  match k,hk with
  | 0,_=>exact q_cell h 3
  | 1,_=>exact q_cell h 4
  | 2,_=>exact q_cell h 5⟩⟩
end
section
open Go Go.RowKit
theorem perm_l {p:List Int} {N:Nat} (h:cpE p (N:Int)=0):PermL N p:=by
 have n1:=cpE_ok h
 have h1:=cpE_val p (N:Int)
 rw[h,if_pos (by rw[n1.len])] at h1
 have hp:permE p=0:=by
  by_cases e:permE p=0
  ·exact e
  ·rw[if_neg e] at h1;exact absurd h1 (by decide)
 exact ⟨n1.len,(perm_ok hp).2.nodup,n1.num⟩
end
section
open Go Go.RowKit Go.ChangeShapes Go.WideShapes
theorem O6.cellsM:Tryz.prog.cellsOf 98=6:=by kernel_rfl
theorem O6.cells96:Tryz.prog.cellsOf 96=3:=by kernel_rfl
theorem O6.array6 {α:Type} {cs:Array α} (h:cs.size=6):∃c0 c1 c2 c3 c4 c5,cs=#[c0,c1,c2,c3,c4,c5]:=by
 obtain ⟨l⟩:=cs
 match l,h with
 | [c0,c1,c2,c3,c4,c5],_=>exact ⟨c0,c1,c2,c3,c4,c5,rfl⟩
section
variable {H:Type} {enc:TypeId × Value→H} {w:World} {held:Bool}
theorem open_moves {base:Nat} {v:Value} {d:DataW H} {p:List MemPlace} (hv:Value.okWide Tryz.prog w .any base 98 v) (h:DataW.Trod enc Tryz.prog w 0 (fun _=>true) held 98 v d p) (hz:∀n∈d.weights Tryz.prog 98,n≤reachBytes) :
  ∃(aR:Option Addr) (nR cR:Nat) (XR:List Int) (aK:Option Addr) (nK cK:Nat) (XK:List Int) (aM:Option Addr) (nM cM:Nat) (XM:List Int) (p0 p1 p2:Int),v = .agg #[.slice aR nR cR,.slice aK nK cK,.slice aM nM cM,.int .i64 p0,.int .i64 p1,.int .i64 p2]∧IC w aR nR XR∧IC w aK nK XK∧IC w aM nM XM:=by
 obtain ⟨cs,rfl,hsz⟩:=okWide_struct Tryz.underlying98 hv
 obtain ⟨c0,c1,c2,c3,c4,c5,rfl⟩:=O6.array6 (hsz.trans O6.cellsM)
 obtain ⟨fuel,hf⟩:=h
 obtain ⟨y0,y1,y2,y3,m,hx,_,h0,h1,h2,h3⟩:=Go.Joins.trod_struct4 Tryz.underlying98 hf
 have h0':DataW.trod enc Tryz.prog w 0 (fun _=>true) held m 22 [c0]=some y0:=by simpa [Value.cells,O1.cells25] using h0
 have h1':DataW.trod enc Tryz.prog w 0 (fun _=>true) held m 22 [c1]=some y1:=by simpa [Value.cells,O1.cells25] using h1
 have h2':DataW.trod enc Tryz.prog w 0 (fun _=>true) held m 22 [c2]=some y2:=by simpa [Value.cells,O1.cells25] using h2
 have h3':DataW.trod enc Tryz.prog w 0 (fun _=>true) held m 96 [c3,c4,c5]=some y3:=by simpa [Value.cells,O6.cells96] using h3
 obtain ⟨z0,z1,z2,m2,_,g0,g1,g2⟩:=trod_array3 Tryz.underlying96 O1.cells3 h3'
 simp only[Prod.mk.injEq] at hx
 obtain ⟨rfl,rfl⟩:=hx
 have hw0:∀n,n∈y0.1.weights Tryz.prog 22→n≤reachBytes:=by
  intro n hn
  refine hz n ?_
  simp only[DataW.weights,Tryz.underlying98,List.map_cons,List.map_nil,DataW.weightsEach,List.mem_append]
  exact .inl hn
 have hw1:∀n,n∈y1.1.weights Tryz.prog 22→n≤reachBytes:=by
  intro n hn
  refine hz n ?_
  simp only[DataW.weights,Tryz.underlying98,List.map_cons,List.map_nil,DataW.weightsEach,List.mem_append]
  exact .inr (.inl hn)
 have hw2:∀n,n∈y2.1.weights Tryz.prog 22→n≤reachBytes:=by
  intro n hn
  refine hz n ?_
  simp only[DataW.weights,Tryz.underlying98,List.map_cons,List.map_nil,DataW.weightsEach,List.mem_append]
  exact .inr (.inr (.inl hn))
 obtain ⟨a0,n0,k0,P0,rfl,_,hP0⟩:=O1.ints h0' hw0
 obtain ⟨a1,n1,k1,P1,rfl,_,hP1⟩:=O1.ints h1' hw1
 obtain ⟨a2,n2,k2,P2,rfl,_,hP2⟩:=O1.ints h2' hw2
 obtain ⟨p0,e0,_,_⟩:=DataW.trod_int Tryz.underlying3 g0
 obtain ⟨p1,e1,_,_⟩:=DataW.trod_int Tryz.underlying3 g1
 obtain ⟨p2,e2,_,_⟩:=DataW.trod_int Tryz.underlying3 g2
 simp only[List.cons.injEq,and_true] at e0 e1 e2
 exact ⟨a0,n0,k0,P0,a1,n1,k1,P1,a2,n2,k2,P2,p0,p1,p2,by rw[e0,e1,e2],hP0,hP1,hP2⟩
end
end
section
open Go Go.RowKit
attribute [local go_sem] over_cell
attribute [local go_sem] Oper.semAt_some
structure TmR (W2:World) (d cl:Nat) (xs:List Int) (W:World):Prop where
 ol:OI W W2.heap.size W2.heap.size d cl xs
 b:Below W2.heap.size W2 W
theorem TmR.set {W2:World} {d cl:Nat} {xs:List Int} {W:World} (h:TmR W2 d cl xs W) (k:Nat) (x:Int):TmR W2 d cl (xs.set k x) (W.setCell ⟨W2.heap.size,k,none⟩ (.int .i64 x)) where
 ol:=h.ol.set k x
 b:=h.b.setCell (p:=⟨W2.heap.size,k,none⟩) (Nat.le_refl _) _
end
end Go.Proofs.YtmfpdakaeagdpaaGreat
