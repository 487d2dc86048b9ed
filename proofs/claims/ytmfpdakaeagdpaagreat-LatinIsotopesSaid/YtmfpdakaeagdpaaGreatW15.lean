/- Texts J61 to J61 of this proof, in one file. -/
import Derived.Test.YtmfpdakaeagdpaaGreatW01
import Derived.Test.YtmfpdakaeagdpaaGreatW02
import Derived.Test.YtmfpdakaeagdpaaGreatW03
import Derived.Test.YtmfpdakaeagdpaaGreatW04
import Derived.Test.YtmfpdakaeagdpaaGreatW05
import Derived.Test.YtmfpdakaeagdpaaGreatW06
import Derived.Test.YtmfpdakaeagdpaaGreatW07
import Derived.Test.YtmfpdakaeagdpaaGreatW08
import Derived.Test.YtmfpdakaeagdpaaGreatW09
import Derived.Test.YtmfpdakaeagdpaaGreatW10
import Derived.Test.YtmfpdakaeagdpaaGreatW11
import Derived.Test.YtmfpdakaeagdpaaGreatW12
import Derived.Test.YtmfpdakaeagdpaaGreatW13
import Derived.Test.YtmfpdakaeagdpaaGreatW14
import Derived.Below
import Derived.BigFrame
import Derived.BigQuiet
import Derived.Deep.CutBlock
import Derived.Deep.CutRange
import Derived.Deep.LoopGhost
import Derived.Deep.Quiet
import Derived.Deep.RegionHeld3
import Derived.DeepKeys4
import Derived.KernelRfl
import Derived.Laws.BitsAllLaws
import Derived.Laws.EntriesVeiled
import Derived.Lib.Hide
import Derived.Lib.SliceRun
import Derived.LoopIn
import Derived.LoopNIn
import Derived.Maps.AppendAt
import Derived.Maps.OwnIn
import Derived.Maps.OwnSet
import Derived.OneCell
import Derived.OrdersHeld
import Derived.OrdersIn
import Derived.OwnWalkIn
import Derived.RangeFuncBound
import Derived.RangeFuncCalls
import Derived.RangeFuncLeaves
import Derived.RangeFuncNested
import Derived.Shelf.Abstract
import Derived.Still
import Derived.TacticsIn
import Derived.TacticsInMore
import Derived.Test.YtmfpdakaeagdpaaGreatProg
import Derived.WalkKit
import Derived.WalkLawsBesides
import Derived.WalkSpells
import Derived.WideKeyPair
namespace Go.Proofs.YtmfpdakaeagdpaaGreat
set_option maxRecDepth 100000
set_option maxHeartbeats 16000000
section
open Go Go.RowKit Go.Maps
attribute [local go_sem] over_cell
attribute [local go_sem] Oper.semAt_some
def mtE (r C:Int) (cs:List Int):Int:=firstL [sqE 0 r C cs,whenV (decide (5<r)) 20]
def blankL (N:Nat):List Int:=madeTo N (fun _ _ => -1) (N*N)
def mtO (N:Nat) (l:List Int):Option (List Int):=(compP N (pairB l) (N*N) 0 (blankL N)).head?
def mtL (r C:Int) (l:List Int):List Int:=if mtE r C l=0 then (mtO r.toNat l).getD [] else []
def mtEr (r C:Int) (l:List Int):Int:=if mtE r C l=0 then (if (mtO r.toNat l).isSome then 0 else 7) else mtE r C l
theorem mtE_ok {r C:Int} {cs:List Int} (h:mtE r C cs=0):∃n:Nat,r=(n:Int)∧C=(n:Int)∧Latin n cs∧n≤5:=by
 unfold mtE at h
 obtain ⟨h1,h2⟩:=firstL_cons0 h
 obtain ⟨h3,_⟩:=firstL_cons0 h2
 obtain ⟨n,rfl,rfl,L⟩:=sqE_ok h1
 refine ⟨n,rfl,rfl,L,?_⟩
 unfold whenV at h3
 split at h3
 ·exact absurd h3 (by decide)
 ·rename_i hx
  have:¬(5:Int)<(n:Int):=by simpa using hx
  omega
theorem blank_get (N d:Nat):(blankL N)[d]?.getD 0=if d<N*N then -1 else 0:=by
 unfold blankL
 rw[made_const,List.getElem?_replicate]
 split <;> rfl
theorem blank_part (N:Nat) (h1:1≤N) (h2:N≤16):Part N (blankL N) where
 n1:=h1
 n2:=h2
 len:=by unfold blankL;rw[madeTo_len]
 ge:=fun j=>by rw[blank_get];split <;> omega
 lt:=fun j=>by rw[blank_get];split <;> omega
 once:=by
  rw[once_iff]
  intro c d hc hd _ _ _
  rw[blank_get,if_pos (by unfold blankL at hc;rw[madeTo_len] at hc;exact hc)]
  decide
theorem mate1_c (i j:Int) (w:World):Calls Tryz.prog 95 #[.int .i64 i,.int .i64 j] w fun e w'=>e = .returned (.int .i64 (-1))∧Below w.heap.size w w':=by
 go_enter Tryz.func95,Tryz.ntmps95
 go_wp2
 go_ret
 exact ⟨rfl,Below.refl _ _⟩
theorem enterMt1:∀args w,Sem.run Tryz.prog (callFunc 95 args) w = .ok (.enter 95 args) w:=by
 intro args w;kernel_rfl
theorem enterMt2:∀args w,Sem.run Tryz.prog (callFunc 96 args) w = .ok (.enter 96 args) w:=by
 intro args w;kernel_rfl
theorem enterMt3:∀args w,Sem.run Tryz.prog (callFunc 97 args) w = .ok (.enter 97 args) w:=by
 intro args w;kernel_rfl
theorem side_mate {N n c:Nat} {a:Option Addr} {l:List Int} {B bl b6 bm:Nat} {Old:Nat→Prop} (S:Sq N l) (hn:n=N*N) (hold:∀k,k<B∨k=bl∨k=b6→Old k) (hne:bm≠bl∧bm≠b6∧B≤bm) :
  SideP N (blankL N) 96 #[.pointer (some ⟨b6,0,none⟩),.pointer (some ⟨bl,0,none⟩)] 97 #[.pointer (some ⟨b6,0,none⟩),.pointer (some ⟨bl,0,none⟩)] Old (fun k=>k=bm) (pairB l) (fun cs W=>MtW B N n c a l bl b6 bm cs W):=by
 have hop:∀{cs:List Int} {k:Nat},Gp N (blankL N) cs k→∀d,k≤d→d<N*N→cs[d]?.getD 0<0:=fun G d hd hd2=>by rw[G.hi d hd,blank_get,if_pos hd2];decide
 refine ⟨fun cs W W' h hs hk=>h.keep hs (fun k e=>hk k ?_),fun cs k x W h _ G hk hx=>mfree_c B N n c a l bl b6 bm cs W h S hn k x hk hx (hop G),fun cs k x W h _ G hk hx hp hok=>?_,fun cs k x W h _ G hk hx hp hok=>?_,enterMt2,enterMt3⟩
 ·rcases e with e|e|e|e
  ·exact .inl (hold k (.inl e))
  ·exact .inl (hold k (.inr (.inl e)))
  ·exact .inl (hold k (.inr (.inr e)))
  ·exact .inr e
 ·exact mnote_c B N n c a l bl b6 bm cs W h S hn k x hk hx true (cs.set k (x:Int)) hne (fun p hp z=>pair_put hk G.len (hop G k (Nat.le_refl _) hk) hp z)
 ·exact mnote_c B N n c a l bl b6 bm (cs.set k (x:Int)) W h S hn k x hk hx false cs hne (fun p hp z=>pair_take hk G.len (hop G k (Nat.le_refl _) hk) (hop G) hp hok z)
theorem pair_blank (N:Nat) (l:List Int) (z:Pr):(fun _:Pr=>false) z=pairG N l (blankL N) z:=by
 cases h:pairG N l (blankL N) z with
 | false=>rfl
 | true =>
  obtain ⟨d,hd,_,_,h3⟩:=pairG_iff.1 h
  rw[blank_get,if_pos hd] at h3
  exact absurd h3 (by decide)
def MtI (w:World) (pre:List (Value × List Int)) (M:Nat→Prop) (W:World):Prop :=
 pre=[]∧OldI w.heap.size w W M∧BoxI W M (w.heap.size+1) #[.int .i64 0,.int .i64 0,.slice none 0 0] 24∧BoxI W M (w.heap.size+1+1) #[.int .i64 0] 27
theorem mtI_stable {w:World} {L':Nat} (h1:w.heap.size≤L'):StableL L' (MtI w) :=
 stable_and (stable_pure (fun (pre:List (Value × List Int))=>pre=[])) (stable_and (stable_old h1 (Nat.le_refl _)) (stable_and (stable_box _ (fun _=>#[.int .i64 0,.int .i64 0,.slice none 0 0]) _) (stable_box _ (fun _=>#[.int .i64 0]) _)))
def MtX (w:World) (N:Int) (c:Code) (pre:List (Value × List Int)) (M:Nat→Prop) (W:World):Prop :=
 c = .ret∧∃x,pre=[x]∧OldI w.heap.size w W M∧BoxI W M (w.heap.size+1) #[.int .i64 N,.int .i64 N,x.1] 24∧BoxI W M (w.heap.size+1+1) #[.int .i64 0] 27∧W.ownsRow w.heap.size 3 1 x.1 x.2.length (x.2.map (Value.int .i64))∧∀k,x.1.ownBlock=some k→¬M k
theorem mtX_stable {w:World} {N:Int} {L':Nat} (h1:w.heap.size≤L') (c:Code):StableL L' (MtX w N c) :=
 stable_and (stable_pure _) (stable_ex fun x=>stable_and (stable_pure (fun (pre:List (Value × List Int))=>pre=[x])) (stable_and (stable_old h1 (Nat.le_refl _)) (stable_and (stable_box _ (fun _=>#[.int .i64 N,.int .i64 N,x.1]) _) (stable_and (stable_box _ (fun _=>#[.int .i64 0]) _)
  (fun _ _ _ _ _ h hs hn=>⟨hs.owns h.1 h.2,fun k e hM'=>(hn k hM').elim (h.2 k e) (fun h2=>by have:=(h.1.lt k e).2;omega)⟩)))))
theorem mate_c (r C:Int) (a:Option Addr) (n c:Nat) (l:List Int) (w:World) (h:IC w a n l) :
  Calls Tryz.prog 21 #[.agg #[.int .i64 r,.int .i64 C,.slice a n c]] w (GridE w (if mtEr r C l=0 then r else 0) (if mtEr r C l=0 then r else 0) (mtL r C l) (mtEr r C l)):=by
 have HCK:=Lib.hid (fun W (hb:Below w.heap.size w W)=>latcheck_c r C a n c l W (h.mono hb))
 have HF:Hid (firstL [sqE 0 r C l,whenV (decide (5<r)) 20]=mtE r C l):=rfl
 by_cases h0:mtE r C l=0
 ·obtain ⟨N,rfl,rfl,L,h5⟩:=mtE_ok h0
  have hN1:=L.pos
  have hER:mtEr (N:Int) (N:Int) l=if (mtO N l).isSome then 0 else 7:=by unfold mtEr;rw[if_pos h0];rfl
  have hLL:mtL (N:Int) (N:Int) l=(mtO N l).getD []:=by unfold mtL;rw[if_pos h0];rfl
  have hm:n=N*N:=by rw[← h.len,L.len]
  rw[h0] at HF
  have HSOME:Hid (∀X,mtO N l=some X→(if mtEr (N:Int) (N:Int) l=0 then (N:Int) else 0)=(N:Int)∧mtL (N:Int) (N:Int) l=X∧mtEr (N:Int) (N:Int) l=0):=fun X hX=>by
   rw[hER,hLL,hX]
   exact ⟨rfl,rfl,rfl⟩
  have HNONE:Hid (mtO N l=none→(if mtEr (N:Int) (N:Int) l=0 then (N:Int) else 0)=0∧mtL (N:Int) (N:Int) l=[]∧mtEr (N:Int) (N:Int) l=7):=fun hX=>by
   rw[hER,hLL,hX]
   exact ⟨rfl,rfl,rfl⟩
  generalize (if mtEr (N:Int) (N:Int) l=0 then (N:Int) else 0)=RR at HSOME HNONE ⊢
  generalize mtL (N:Int) (N:Int) l=XS at HSOME HNONE ⊢
  generalize mtEr (N:Int) (N:Int) l=ER at HSOME HNONE hER ⊢
  have HSU:=Lib.hid (ic_sure h)
  have HMN:=Lib.hid hm
  have HBP:=Lib.hid (blank_part N L.pos (by omega))
  have HMD:=Lib.hid (fun W=>made_g N (by omega) 95 #[] #[] (fun _ _ => -1) (blankL N) W rfl enterMt1 (fun i j _ _ W' _=>mate1_c i j W'))
  have HSD:=Lib.hid (fun (B bl b6 bm:Nat) (Old:Nat→Prop) h1 h2=>side_mate (N:=N) (n:=n) (c:=c) (a:=a) (l:=l) (B:=B) (bl:=bl) (b6:=b6) (bm:=bm) (Old:=Old) L.sq hm h1 h2)
  have HLT:=Lib.hid L
  clear h0 hER hLL hm h L
  refine calls_of_marks Tryz.func21 rfl ?_
  simp only[Tryz.ntmps21,List.size_toArray,List.length_cons,List.length_nil,Nat.reduceAdd,Nat.reduceSub,Array.replicate_succ,Array.replicate_zero,List.push_toArray,List.append_toArray,List.nil_append,List.cons_append]
  go_upto_region 1 with fail
  have fsz:(((w.alloc (.cells #[.int .i64 (N:Int),.int .i64 (N:Int),.slice a n c] 24)).alloc (.cells #[.int .i64 0,.int .i64 0,.slice none 0 0] 24)).alloc (.cells #[.int .i64 0] 27)).heap.size=w.heap.size+3:=by simp only[World.size_alloc] <;> omega
  have fB:Below w.heap.size w (((w.alloc (.cells #[.int .i64 (N:Int),.int .i64 (N:Int),.slice a n c] 24)).alloc (.cells #[.int .i64 0,.int .i64 0,.slice none 0 0] 24)).alloc (.cells #[.int .i64 0] 27)):=(((Below.refl _ _).alloc (Nat.le_refl _) _).alloc (by simp only[World.size_alloc];omega) _).alloc (by simp only[World.size_alloc];omega) _
  have fq0:(((w.alloc (.cells #[.int .i64 (N:Int),.int .i64 (N:Int),.slice a n c] 24)).alloc (.cells #[.int .i64 0,.int .i64 0,.slice none 0 0] 24)).alloc (.cells #[.int .i64 0] 27)).heap[w.heap.size]?=some (.cells #[.int .i64 (N:Int),.int .i64 (N:Int),.slice a n c] 24 (0,0)):=by have h:=World.alloc_heap_new w (.cells #[.int .i64 (N:Int),.int .i64 (N:Int),.slice a n c] 24);exact (Below.heap_alloc _ _ _ (by simp only[World.size_alloc];omega)).trans ((Below.heap_alloc _ _ _ (by simp only[World.size_alloc];omega)).trans (h))
  have fq1:(((w.alloc (.cells #[.int .i64 (N:Int),.int .i64 (N:Int),.slice a n c] 24)).alloc (.cells #[.int .i64 0,.int .i64 0,.slice none 0 0] 24)).alloc (.cells #[.int .i64 0] 27)).heap[w.heap.size+1]?=some (.cells #[.int .i64 0,.int .i64 0,.slice none 0 0] 24 (0,0)):=by have h:=World.alloc_heap_new (w.alloc (.cells #[.int .i64 (N:Int),.int .i64 (N:Int),.slice a n c] 24)) (.cells #[.int .i64 0,.int .i64 0,.slice none 0 0] 24);simp only[World.size_alloc] at h;exact (Below.heap_alloc _ _ _ (by simp only[World.size_alloc];omega)).trans (h)
  have fq2:(((w.alloc (.cells #[.int .i64 (N:Int),.int .i64 (N:Int),.slice a n c] 24)).alloc (.cells #[.int .i64 0,.int .i64 0,.slice none 0 0] 24)).alloc (.cells #[.int .i64 0] 27)).heap[w.heap.size+1+1]?=some (.cells #[.int .i64 0] 27 (0,0)):=by have h:=World.alloc_heap_new ((w.alloc (.cells #[.int .i64 (N:Int),.int .i64 (N:Int),.slice a n c] 24)).alloc (.cells #[.int .i64 0,.int .i64 0,.slice none 0 0] 24)) (.cells #[.int .i64 0] 27);simp only[World.size_alloc] at h;exact h
  generalize (((w.alloc (.cells #[.int .i64 (N:Int),.int .i64 (N:Int),.slice a n c] 24)).alloc (.cells #[.int .i64 0,.int .i64 0,.slice none 0 0] 24)).alloc (.cells #[.int .i64 0] 27))=W0 at fsz fB fq0 fq1 fq2 ⊢
  obtain ⟨x0,x1,x2,xl⟩:=c3_of fq0
  have FB:=Lib.hid fB
  have Q0:=Lib.hid fq0
  have Q1:=Lib.hid fq1
  have Q2:=Lib.hid fq2
  have HSZ:=Lib.hid fsz
  clear fsz fq0 fq1 fq2
  refine wp_region_S (fun w'=>∃u,w'=over (W0) u) [8,7,6,5] [(0,0),(0,2),(0,3),(0,4),(1,1),(2,5),(2,6),(2,7),(2,8)] (by kernel_rfl) (by kernel_rfl) (by exact ⟨_,below_over (by repeat (first|assumption|exact Below.refl _ _|refine keep_drew ?_|refine keep_alloc ?_ _|refine keep_trans ?_ (by assumption)))⟩) ?_
  dsimp only[pickOps,nthOp]
  repeat (first|(refine wpS_skip rfl (fun K hK=>?_);go_big_quiet_op;refine hK _ ?_;clear hK K)|(refine wpS_quiet rfl rfl (fun K hK=>?_);go_big_quiet_op;refine hK _ ?_;clear hK K)|(refine wpS_loud ?_;go_wp2_with (first|(go_at_call 58;refine (HCK.out _ (by (repeat (first|assumption|exact Below.refl _ _|refine keep_drew ?_|refine keep_alloc ?_ _|refine keep_trans ?_ (by assumption))))).mono ?_;rintro _ w1 ⟨rfl,hb1'⟩;have hb1:Below W0.heap.size W0 w1:=(by (repeat (first|assumption|exact Below.refl _ _|refine keep_drew ?_|refine keep_alloc ?_ _|refine keep_trans ?_ (by assumption)))))|(go_at_call 93;refine (twhen_c _ _ _).mono ?_;rintro _ w2 ⟨rfl,rfl⟩)|(go_at_call 92;refine (tfirst_c _ _ _ _ _ (IC.new2 _ _ _ _)).mono ?_;rw[HF.out];rintro _ w3 ⟨rfl,rfl⟩));refine ⟨?_,?_⟩;focus (exact ⟨_,below_over (by repeat (first|assumption|exact Below.refl _ _|refine keep_drew ?_|refine keep_alloc ?_ _|refine keep_trans ?_ (by assumption)))⟩)))
  refine wpS_late _ _ _ rfl ?_
  dsimp only[List.map]
  go_wp2_with (first|(go_at_call 58;refine (HCK.out _ (by (repeat (first|assumption|exact Below.refl _ _|refine keep_drew ?_|refine keep_alloc ?_ _|refine keep_trans ?_ (by assumption))))).mono ?_;rintro _ w1 ⟨rfl,hb1'⟩;have hb1:Below W0.heap.size W0 w1:=(by (repeat (first|assumption|exact Below.refl _ _|refine keep_drew ?_|refine keep_alloc ?_ _|refine keep_trans ?_ (by assumption)))))|(go_at_call 93;refine (twhen_c _ _ _).mono ?_;rintro _ w2 ⟨rfl,rfl⟩)|(go_at_call 92;refine (tfirst_c _ _ _ _ _ (IC.new2 _ _ _ _)).mono ?_;rw[HF.out];rintro _ w3 ⟨rfl,rfl⟩))
  refine NoPanic.normal ?_
  have HB2:Hid (Below W0.heap.size W0 (w1.alloc (.cells #[.int .i64 (sqE 0 (N:Int) (N:Int) l),.int .i64 (whenV (decide (5<(N:Int))) 20)] 27))):=by unfold Hid;(repeat (first|assumption|exact Below.refl _ _|refine keep_drew ?_|refine keep_alloc ?_ _|refine keep_trans ?_ (by assumption)))
  clear x0 x1 x2 xl hb1 hb1' fB
  generalize (w1.alloc (.cells #[.int .i64 (sqE 0 (N:Int) (N:Int) l),.int .i64 (whenV (decide (5<(N:Int))) 20)] 27))=W1 at HB2 ⊢
  obtain ⟨x0,x1,x2,xl⟩:=c3_of (keepq HB2.out Q0.out)
  have hmm:=@run_makeMap Tryz.prog
  go_upto_region 6 with fail
  clear hmm
  have hM0:MapC (W1.alloc (.map #[] 0)) Tryz.prog 62 4 kapP W1.heap.size [] (fun _=>false):=MapC.made
  have hB1:Below W1.heap.size W1 (W1.alloc (.map #[] 0)):=(Below.refl _ _).alloc (Nat.le_refl _) _
  obtain ⟨Wm,hWm⟩:∃Wm,Wm=W1.alloc (.map #[] 0):=⟨_,rfl⟩
  have hms:Wm.heap.size=W1.heap.size+1:=by rw[hWm,World.size_alloc]
  rw[← hWm] at hM0 hB1 ⊢
  rw[← hms]
  have HMS:=Lib.hid hms
  clear hWm hms x0 x1 x2 xl
  have ksz:(Wm.alloc (.cells #[.map (some W1.heap.size)] 109)).heap.size=Wm.heap.size+1:=by simp only[World.size_alloc]
  have kB:Below Wm.heap.size Wm (Wm.alloc (.cells #[.map (some W1.heap.size)] 109)):=(Below.refl _ _).alloc (Nat.le_refl _) _
  have kq0:(Wm.alloc (.cells #[.map (some W1.heap.size)] 109)).heap[Wm.heap.size]?=some (.cells #[.map (some W1.heap.size)] 109 (0,0)):=by have h:=World.alloc_heap_new Wm (.cells #[.map (some W1.heap.size)] 109);exact h
  generalize (Wm.alloc (.cells #[.map (some W1.heap.size)] 109))=W2 at ksz kB kq0 ⊢
  clear ksz
  go_upto_region 7 with (first|(go_at_call 94;refine (HMD.out _).mono ?_;rintro _ w5 ⟨a5,c5,rfl,hown5,hb5⟩))
  have gsz:(w5.alloc (.cells #[.int .i64 (N:Int),.int .i64 (N:Int),.slice a5 (blankL N).length c5] 24)).heap.size=w5.heap.size+1:=by simp only[World.size_alloc]
  have gB:Below w5.heap.size w5 (w5.alloc (.cells #[.int .i64 (N:Int),.int .i64 (N:Int),.slice a5 (blankL N).length c5] 24)):=(Below.refl _ _).alloc (Nat.le_refl _) _
  have gq0:(w5.alloc (.cells #[.int .i64 (N:Int),.int .i64 (N:Int),.slice a5 (blankL N).length c5] 24)).heap[w5.heap.size]?=some (.cells #[.int .i64 (N:Int),.int .i64 (N:Int),.slice a5 (blankL N).length c5] 24 (0,0)):=by have h:=World.alloc_heap_new w5 (.cells #[.int .i64 (N:Int),.int .i64 (N:Int),.slice a5 (blankL N).length c5] 24);exact h
  generalize (w5.alloc (.cells #[.int .i64 (N:Int),.int .i64 (N:Int),.slice a5 (blankL N).length c5] 24))=W6 at gsz gB gq0 ⊢
  obtain ⟨x0,x1,x2,xl⟩:=c3_of gq0
  have HK:=Lib.hid kq0
  have HM0:=Lib.hid hM0
  have HB0:=Lib.hid (keep_trans HB2.out hB1)
  have HKB:=Lib.hid kB
  have HB5:=Lib.hid hb5
  have HO5:=Lib.hid hown5
  have HGB:=Lib.hid gB
  clear gsz gq0 kq0 hM0 hB1 kB hb5 hown5 gB
  go_wp2_with (first|(go_at_call 98;refine (comps_c _ _ _ _ _ _ _ _).mono ?_;rintro _ w7 ⟨rfl,hq70,hq71,hq72,hb7⟩)|fail)
  have hs1:W0.heap.size≤W1.heap.size:=HB2.out.size
  have hs2:Wm.heap.size=W1.heap.size+1:=HMS.out
  have hs3:Wm.heap.size<W2.heap.size:=q_lt HK.out
  have hs5:W2.heap.size≤w5.heap.size:=HB5.out.size
  have hs6:w5.heap.size≤W6.heap.size:=HGB.out.size
  have hs7:W6.heap.size≤w7.heap.size:=hb7.size
  have hs0:w.heap.size+1+1<W0.heap.size:=q_lt Q2.out
  have hB07:Below W0.heap.size W0 w7:=keep_trans (keep_trans (keep_trans (keep_trans HB0.out HKB.out) HB5.out) HGB.out) hb7
  have hBm7:Below Wm.heap.size Wm w7:=keep_trans (keep_trans (keep_trans HKB.out HB5.out) HGB.out) hb7
  have hB27:Below W2.heap.size W2 w7:=keep_trans (keep_trans HB5.out HGB.out) hb7
  have hBw7:Below w.heap.size w w7:=keep_trans FB.out hB07
  have hM7:=HM0.out.mono hBm7 (by omega)
  have hO7:w7.ownsRow W2.heap.size 3 1 (.slice a5 (blankL N).length c5) (blankL N).length ((blankL N).map (Value.int .i64)):=owns_keep HO5.out (fun k _ hl=>(keep_trans HGB.out hb7).block k hl)
  have hNt:MtW w.heap.size N n c a l w.heap.size Wm.heap.size W1.heap.size (blankL N) w7:=⟨keepq hB07 Q0.out,keepq hB27 HK.out,HSU.out.keep hBw7.size (fun k e=>hBw7.block k e),⟨[],fun z hz=>(by cases hz),hM7.same (pair_blank N l)⟩⟩
  have hBL:(blankL N).length=N*N:=HBP.out.len
  have hNN:N*N≤5*5:=Nat.mul_le_mul h5 h5
  obtain ⟨Old,hOld⟩:∃Old:Nat→Prop,Old=fun k=>k<w7.heap.size∧k≠w.heap.size+1∧k≠w.heap.size+1+1∧k≠W1.heap.size:=⟨_,rfl⟩
  have hS:=HSD.out w.heap.size w.heap.size Wm.heap.size W1.heap.size Old (fun k e=>by rw[hOld];refine ⟨?_,?_,?_,?_⟩ <;> omega) ⟨by omega,by omega,by omega⟩
  have hic:Sure Old w7 (fun w'=>IC w' a5 (blankL N).length (blankL N)):=fun W' hs hk=>(IC.of_owns (owns_keep hO7 (fun k e hl=>hk k (by rw[hOld];have:=(hO7.lt k e).1;refine ⟨hl,?_,?_,?_⟩ <;> omega))) (by omega)).1
  have HOL:=Lib.hid hOld
  have HMT:Hid (mtO N l=(compP N (pairB l) (blankL N).length 0 (blankL N)).head?):=by unfold Hid mtO;rw[hBL]
  have hq1:=keepq hB07 Q1.out
  have hq2:=keepq hB07 Q2.out
  clear hOld x0 x1 x2 xl
  refine wp_range_comp W6.heap.size N a5 (blankL N).length c5 (blankL N) _ _ _ _ Old (fun k=>k=W1.heap.size) (pairB l) _ hS HBP.out hBL hq70 hq71 hq72 hic (fun k e=>by rw[HOL.out] at e;exact e.1) (fun k e=>by omega) (fun k e=>⟨by rw[HOL.out];intro e2;exact e2.2.2.2 e,by omega,by omega,by omega⟩) hNt rfl
   (MtI w) (MtX w (N:Int)) ?hI ?hIx ?h0 ?As ?assign ?body ?done ?stop
  case hI=>exact mtI_stable hBw7.size
  case hIx=>exact mtX_stable hBw7.size
  case h0=>exact ⟨rfl,⟨hBw7,fun k e=>by omega⟩,⟨hq1,by omega⟩,⟨hq2,by omega⟩⟩
  case As=>exact fun x W act Wa=>act={ tmps:=#[.agg #[.int .i64 (N:Int),.int .i64 (N:Int),.slice a n c],.pointer (some ⟨w.heap.size,0,none⟩),.pointer (some ⟨w.heap.size+1,0,none⟩),.pointer (some ⟨w.heap.size+1+1,0,none⟩),.int .i64 0,.int .i64 (N:Int),.pointer (some ⟨Wm.heap.size,0,none⟩),.pointer (some ⟨w5.heap.size,0,none⟩),
   .func (.func 96) #[] #[.pointer (some ⟨Wm.heap.size,0,none⟩),.pointer (some ⟨w.heap.size,0,none⟩)],.func (.func 97) #[] #[.pointer (some ⟨Wm.heap.size,0,none⟩),.pointer (some ⟨w.heap.size,0,none⟩)],.pointer (some ⟨W.heap.size,0,none⟩),.agg #[.int .i64 (N:Int),.int .i64 (N:Int),.slice a n c],
   .int .i64 (sqE 0 (N:Int) (N:Int) l),.pointer (some ⟨w.heap.size,0,none⟩),.int .i64 (N:Int),.bool (decide (5<(N:Int))),.int .i64 (whenV (decide (5<(N:Int))) 20),.slice (some ⟨w1.heap.size,0,none⟩) 2 2,.int .i64 0,.int .i64 0,.bool false,undef,undef,.pointer (some ⟨w.heap.size,0,none⟩),.int .i64 (N:Int),.map (some W1.heap.size),.int .i64 (N:Int),.agg #[.int .i64 (N:Int),.int .i64 (N:Int),.slice a5 (blankL N).length c5],
   .func (.func 96) #[] #[.pointer (some ⟨Wm.heap.size,0,none⟩),.pointer (some ⟨w.heap.size,0,none⟩)],.func (.func 97) #[] #[.pointer (some ⟨Wm.heap.size,0,none⟩),.pointer (some ⟨w.heap.size,0,none⟩)],.agg #[.int .i64 (N:Int),.int .i64 (N:Int),.slice a5 (blankL N).length c5],
   .func (.func 96) #[] #[.pointer (some ⟨Wm.heap.size,0,none⟩),.pointer (some ⟨w.heap.size,0,none⟩)],.func (.func 97) #[] #[.pointer (some ⟨Wm.heap.size,0,none⟩),.pointer (some ⟨w.heap.size,0,none⟩)],compV W6.heap.size,.agg #[.int .i64 (N:Int),.int .i64 (N:Int),x.1],undef,undef],defers:=[] }∧Wa.heap[W.heap.size]?=some (.cells #[.int .i64 (N:Int),.int .i64 (N:Int),x.1] 24 (0,0))
  case assign =>
   rintro l9 ⟨xv,xl⟩ W K ⟨xa,xn,xc,hxv⟩ hK
   dsimp only at hxv
   subst hxv
   clear hs2 hBL
   gi_wp2
   refine hK _ _ ((Below.refl _ _).alloc (Nat.le_refl _) _) ⟨?_,World.alloc_heap_new _ _⟩
   rfl
  case body =>
   rintro l9 pre ⟨xv,xl⟩ M W4 W19 Wa W act hI0 hs01 hst hnew hgiv ⟨rfl,hqx⟩ hcl hMlt hpre
   obtain ⟨rfl,⟨hBB4,hM⟩,⟨q14,m1⟩,⟨q24,m2⟩⟩:=hI0
   have q1:=hst.at q14 (fun e=>e)
   have q2:=hst.at q24 (fun e=>e)
   have hBB:Below w.heap.size w W:=hst.below hBB4 hBw7.size (Nat.le_refl _) (fun _ e=>e.elim)
   have hs4:w.heap.size+1+1<W4.heap.size:=q_lt q24
   have hqW:=hcl _ _ hqx rfl
   obtain ⟨xa,xc,hxv⟩:=owns_shape hgiv.1
   dsimp only at hxv
   subst hxv
   dsimp only at hqW hgiv hnew
   have hnew':∀k,(Value.slice xa xl.length xc).ownBlock=some k→w.heap.size+1+1<k:=fun k e=>Nat.lt_of_lt_of_le hs4 (hnew k e)
   have HG:=Lib.hid hgiv
   have HST:=Lib.hid hst
   have HNW:=Lib.hid hnew'
   have HQX:=Lib.hid hqx
   have HCL:=Lib.hid hcl
   obtain ⟨b0,b1,b2,bl⟩:=c3_of hqW
   obtain ⟨c0,c1,c2,cl⟩:=c3_of q1
   obtain ⟨cf0,cf1,cf2⟩:=f3_of q1
   obtain ⟨d0,df,dl⟩:=c1_of q2
   clear hgiv hst hnew hnew' hqx hcl q14 q24 hBB4 hs2 hBL
   gi_wp2
   have hs2:=HMS.out
   have g1:=q_other (i:=0) (st3_q (x0 := .int .i64 (N:Int)) (x1 := .int .i64 (N:Int)) (x2 := .slice xa xl.length xc) q1) (show w.heap.size+1≠w.heap.size+1+1 by omega) (.int .i64 0)
   have g2:=q_set (i:=0) (q_other (i:=2) (q_other (i:=1) (q_other (i:=0) q2 (show w.heap.size+1+1≠w.heap.size+1 by omega) (.int .i64 (N:Int))) (show w.heap.size+1+1≠w.heap.size+1 by omega) (.int .i64 (N:Int))) (show w.heap.size+1+1≠w.heap.size+1 by omega) (.slice xa xl.length xc)) (.int .i64 0)
   have hoW:=ownsRow_setCell_other (st3_own (b:=w.heap.size+1) (x0 := .int .i64 (N:Int)) (x1 := .int .i64 (N:Int)) (x2 := .slice xa xl.length xc) (owns_up HG.out.1 (B:=w.heap.size) (fun k e=>by have:=HNW.out k e;omega)) (fun e=>absurd (HNW.out _ e) (show ¬w.heap.size+1+1<w.heap.size+1 by omega))) (a:=⟨w.heap.size+1+1,0,none⟩) (fun e=>absurd (HNW.out _ e) (Nat.lt_irrefl _)) (.int .i64 0)
   have hb3:=(st3_below (x0 := .int .i64 (N:Int)) (x1 := .int .i64 (N:Int)) (x2 := .slice xa xl.length xc) (b:=w.heap.size+1) hBB (Nat.le_succ _)).setCell (p:=⟨w.heap.size+1+1,0,none⟩) (show w.heap.size≤w.heap.size+1+1 by omega) (.int .i64 0)
   have hko:=(((KeepsOthers.setCell W ⟨w.heap.size+1,0,none⟩ (.int .i64 (N:Int))).trans (KeepsOthers.setCell _ ⟨w.heap.size+1,1,none⟩ (.int .i64 (N:Int)))).trans (KeepsOthers.setCell _ ⟨w.heap.size+1,2,none⟩ (.slice xa xl.length xc))).trans (KeepsOthers.setCell _ ⟨w.heap.size+1+1,0,none⟩ (.int .i64 0))
   have hst4:Stays (fun k=>k=w.heap.size+1∨k=w.heap.size+1+1) W ((((W.setCell ⟨w.heap.size+1,0,none⟩ (.int .i64 (N:Int))).setCell ⟨w.heap.size+1,1,none⟩ (.int .i64 (N:Int))).setCell ⟨w.heap.size+1,2,none⟩ (.slice xa xl.length xc)).setCell ⟨w.heap.size+1+1,0,none⟩ (.int .i64 0)) :=
    (((Stays.setCell W (p:=⟨w.heap.size+1,0,none⟩) (.inl rfl) _).trans (Stays.setCell _ (p:=⟨w.heap.size+1,1,none⟩) (.inl rfl) _) (fun k e => .inl e)).trans (Stays.setCell _ (p:=⟨w.heap.size+1,2,none⟩) (.inl rfl) _) (fun k e => .inl e)).trans (Stays.setCell _ (p:=⟨w.heap.size+1+1,0,none⟩) (.inr rfl) _) (fun k e => .inl e)
   refine ⟨hko,⟨hst4.size,fun k hk hb=>hst4.block k hk ?_⟩,rfl,_,rfl,⟨hb3,hM⟩,⟨g1,m1⟩,⟨g2,m2⟩,hoW,fun k e=>(HG.out.2.1 k e).2⟩
   rintro (e|e)
   ·rcases hb with (hb|hb|hb|hb)|hb
    ·rw[HOL.out] at hb;exact hb.2.1 e
    ·omega
    ·omega
    ·omega
    ·exact m1 (e▸hb)
   ·rcases hb with (hb|hb|hb|hb)|hb
    ·rw[HOL.out] at hb;exact hb.2.2.1 e
    ·omega
    ·omega
    ·omega
    ·exact m2 (e▸hb)
  case done =>
   rintro D xs M W hD hS9 ⟨rfl,⟨hB,hM⟩,⟨q1,m1⟩,⟨q2,m2⟩⟩ hK
   obtain ⟨rfl,rfl,rfl⟩:=HNONE.out (by rw[HMT.out,← hS9];rfl)
   obtain ⟨c0,c1,c2,cl⟩:=c3_of q1
   obtain ⟨cf0,cf1,cf2⟩:=f3_of q1
   obtain ⟨d0,df,dl⟩:=c1_of q2
   clear hs2 hBL hS9
   go_wp2
   have g1:=q_other (i:=0) (st3_q (x0 := .int .i64 0) (x1 := .int .i64 0) (x2 := .slice none 0 0) q1) (show w.heap.size+1≠w.heap.size+1+1 by omega) (.int .i64 7)
   have g2:=q_set (i:=0) (q_other (i:=2) (q_other (i:=1) (q_other (i:=0) q2 (show w.heap.size+1+1≠w.heap.size+1 by omega) (.int .i64 0)) (show w.heap.size+1+1≠w.heap.size+1 by omega) (.int .i64 0)) (show w.heap.size+1+1≠w.heap.size+1 by omega) (.slice none 0 0)) (.int .i64 7)
   have hb3:=(st3_below (x0 := .int .i64 0) (x1 := .int .i64 0) (x2 := .slice none 0 0) (b:=w.heap.size+1) hB (Nat.le_succ _)).setCell (p:=⟨w.heap.size+1+1,0,none⟩) (show w.heap.size≤w.heap.size+1+1 by omega) (.int .i64 7)
   have hK2:=((((KeepsOthers.setCell W ⟨w.heap.size+1,0,none⟩ (.int .i64 0)).trans (KeepsOthers.setCell _ ⟨w.heap.size+1,1,none⟩ (.int .i64 0))).trans (KeepsOthers.setCell _ ⟨w.heap.size+1,2,none⟩ (.slice none 0 0))).trans (KeepsOthers.setCell _ ⟨w.heap.size+1+1,0,none⟩ (.int .i64 7))).same D _ hK rfl
   have e0:=(putD_cell hK2 ⟨w.heap.size+1,0,none⟩).trans (q_cell g1 0)
   have e1:=(putD_cell hK2 ⟨w.heap.size+1,1,none⟩).trans (q_cell g1 1)
   have e2:=(putD_cell hK2 ⟨w.heap.size+1,2,none⟩).trans (q_cell g1 2)
   have e3:=(putD_cell hK2 ⟨w.heap.size+1+1,0,none⟩).trans (q_cell g2 0)
   refine marks_one (v := .tuple #[.agg #[.int .i64 0,.int .i64 0,.slice none 0 0],.int .i64 7]) hK2 rfl ?_ ⟨none,0,rfl,World.ownsRow_nil _ _ _ _,putD_below hb3 (Nat.le_trans hBw7.size hD)⟩
   simp[results,Tryz.f21,go_sem,e0,e1,e2,e3]
  case stop =>
   rintro D c9 pre M W hD hS9 _ ⟨rfl,⟨xv,xl⟩,rfl,⟨hB,hM⟩,⟨q1,m1⟩,⟨q2,m2⟩,hown,hnm⟩ hK
   have hX:mtO N l=some xl:=by
    rw[HMT.out]
    obtain ⟨t9,ht⟩:=hS9
    rw[← ht];rfl
   obtain ⟨rfl,rfl,rfl⟩:=HSOME.out _ hX
   dsimp only at hown hnm q1
   obtain ⟨xa,xc,rfl⟩:=owns_shape hown
   have hoD:=StaysL.owns (StaysL.putObj (L:=0) M (.deferred none) (Nat.zero_le _) hK rfl) hown hnm
   clear hs2 hBL hS9
   go_wp2
   have e0:=(putD_cell hK ⟨w.heap.size+1,0,none⟩).trans (q_cell q1 0)
   have e1:=(putD_cell hK ⟨w.heap.size+1,1,none⟩).trans (q_cell q1 1)
   have e2:=(putD_cell hK ⟨w.heap.size+1,2,none⟩).trans (q_cell q1 2)
   have e3:=(putD_cell hK ⟨w.heap.size+1+1,0,none⟩).trans (q_cell q2 0)
   refine marks_one (v := .tuple #[.agg #[.int .i64 (N:Int),.int .i64 (N:Int),.slice xa XS.length xc],.int .i64 0]) hK rfl ?_ ⟨xa,xc,rfl,hoD,putD_below hB (Nat.le_trans hBw7.size hD)⟩
   simp[results,Tryz.f21,go_sem,e0,e1,e2,e3]
 ·have h0':(mtE r C l != 0)=true:=by simpa using h0
  have hER:mtEr r C l=mtE r C l:=if_neg h0
  have hLL:mtL r C l=[]:=if_neg h0
  rw[hLL,hER,if_neg h0]
  generalize mtE r C l=er at HF h0' ⊢
  clear h0 hER hLL h
  refine calls_of_marks Tryz.func21 rfl ?_
  simp only[Tryz.ntmps21,List.size_toArray,List.length_cons,List.length_nil,Nat.reduceAdd,Nat.reduceSub,Array.replicate_succ,Array.replicate_zero,List.push_toArray,List.append_toArray,List.nil_append,List.cons_append]
  go_upto_region 1 with fail
  have fsz:(((w.alloc (.cells #[.int .i64 r,.int .i64 C,.slice a n c] 24)).alloc (.cells #[.int .i64 0,.int .i64 0,.slice none 0 0] 24)).alloc (.cells #[.int .i64 0] 27)).heap.size=w.heap.size+3:=by simp only[World.size_alloc] <;> omega
  have fB:Below w.heap.size w (((w.alloc (.cells #[.int .i64 r,.int .i64 C,.slice a n c] 24)).alloc (.cells #[.int .i64 0,.int .i64 0,.slice none 0 0] 24)).alloc (.cells #[.int .i64 0] 27)):=(((Below.refl _ _).alloc (Nat.le_refl _) _).alloc (by simp only[World.size_alloc];omega) _).alloc (by simp only[World.size_alloc];omega) _
  have fq0:(((w.alloc (.cells #[.int .i64 r,.int .i64 C,.slice a n c] 24)).alloc (.cells #[.int .i64 0,.int .i64 0,.slice none 0 0] 24)).alloc (.cells #[.int .i64 0] 27)).heap[w.heap.size]?=some (.cells #[.int .i64 r,.int .i64 C,.slice a n c] 24 (0,0)):=by have h:=World.alloc_heap_new w (.cells #[.int .i64 r,.int .i64 C,.slice a n c] 24);exact (Below.heap_alloc _ _ _ (by simp only[World.size_alloc];omega)).trans ((Below.heap_alloc _ _ _ (by simp only[World.size_alloc];omega)).trans (h))
  have fq1:(((w.alloc (.cells #[.int .i64 r,.int .i64 C,.slice a n c] 24)).alloc (.cells #[.int .i64 0,.int .i64 0,.slice none 0 0] 24)).alloc (.cells #[.int .i64 0] 27)).heap[w.heap.size+1]?=some (.cells #[.int .i64 0,.int .i64 0,.slice none 0 0] 24 (0,0)):=by have h:=World.alloc_heap_new (w.alloc (.cells #[.int .i64 r,.int .i64 C,.slice a n c] 24)) (.cells #[.int .i64 0,.int .i64 0,.slice none 0 0] 24);simp only[World.size_alloc] at h;exact (Below.heap_alloc _ _ _ (by simp only[World.size_alloc];omega)).trans (h)
  have fq2:(((w.alloc (.cells #[.int .i64 r,.int .i64 C,.slice a n c] 24)).alloc (.cells #[.int .i64 0,.int .i64 0,.slice none 0 0] 24)).alloc (.cells #[.int .i64 0] 27)).heap[w.heap.size+1+1]?=some (.cells #[.int .i64 0] 27 (0,0)):=by have h:=World.alloc_heap_new ((w.alloc (.cells #[.int .i64 r,.int .i64 C,.slice a n c] 24)).alloc (.cells #[.int .i64 0,.int .i64 0,.slice none 0 0] 24)) (.cells #[.int .i64 0] 27);simp only[World.size_alloc] at h;exact h
  generalize (((w.alloc (.cells #[.int .i64 r,.int .i64 C,.slice a n c] 24)).alloc (.cells #[.int .i64 0,.int .i64 0,.slice none 0 0] 24)).alloc (.cells #[.int .i64 0] 27))=W0 at fsz fB fq0 fq1 fq2 ⊢
  obtain ⟨x0,x1,x2,xl⟩:=c3_of fq0
  have FB:=Lib.hid fB
  have Q0:=Lib.hid fq0
  have Q1:=Lib.hid fq1
  have Q2:=Lib.hid fq2
  have HSZ:=Lib.hid fsz
  clear fsz fq0 fq1 fq2
  refine wp_region_S (fun w'=>∃u,w'=over (W0) u) [8,7,6,5] [(0,0),(0,2),(0,3),(0,4),(1,1),(2,5),(2,6),(2,7),(2,8)] (by kernel_rfl) (by kernel_rfl) (by exact ⟨_,below_over (by repeat (first|assumption|exact Below.refl _ _|refine keep_drew ?_|refine keep_alloc ?_ _|refine keep_trans ?_ (by assumption)))⟩) ?_
  dsimp only[pickOps,nthOp]
  repeat (first|(refine wpS_skip rfl (fun K hK=>?_);go_big_quiet_op;refine hK _ ?_;clear hK K)|(refine wpS_quiet rfl rfl (fun K hK=>?_);go_big_quiet_op;refine hK _ ?_;clear hK K)|(refine wpS_loud ?_;go_wp2_with (first|(go_at_call 58;refine (HCK.out _ (by (repeat (first|assumption|exact Below.refl _ _|refine keep_drew ?_|refine keep_alloc ?_ _|refine keep_trans ?_ (by assumption))))).mono ?_;rintro _ w1 ⟨rfl,hb1'⟩;have hb1:Below W0.heap.size W0 w1:=(by (repeat (first|assumption|exact Below.refl _ _|refine keep_drew ?_|refine keep_alloc ?_ _|refine keep_trans ?_ (by assumption)))))|(go_at_call 93;refine (twhen_c _ _ _).mono ?_;rintro _ w2 ⟨rfl,rfl⟩)|(go_at_call 92;refine (tfirst_c _ _ _ _ _ (IC.new2 _ _ _ _)).mono ?_;rw[HF.out];rintro _ w3 ⟨rfl,rfl⟩));refine ⟨?_,?_⟩;focus (exact ⟨_,below_over (by repeat (first|assumption|exact Below.refl _ _|refine keep_drew ?_|refine keep_alloc ?_ _|refine keep_trans ?_ (by assumption)))⟩)))
  refine wpS_late _ _ _ rfl ?_
  dsimp only[List.map]
  go_wp2_with (first|(go_at_call 58;refine (HCK.out _ (by (repeat (first|assumption|exact Below.refl _ _|refine keep_drew ?_|refine keep_alloc ?_ _|refine keep_trans ?_ (by assumption))))).mono ?_;rintro _ w1 ⟨rfl,hb1'⟩;have hb1:Below W0.heap.size W0 w1:=(by (repeat (first|assumption|exact Below.refl _ _|refine keep_drew ?_|refine keep_alloc ?_ _|refine keep_trans ?_ (by assumption)))))|(go_at_call 93;refine (twhen_c _ _ _).mono ?_;rintro _ w2 ⟨rfl,rfl⟩)|(go_at_call 92;refine (tfirst_c _ _ _ _ _ (IC.new2 _ _ _ _)).mono ?_;rw[HF.out];rintro _ w3 ⟨rfl,rfl⟩))
  refine NoPanic.normal ?_
  have HB2:=Lib.hid (keep_trans FB.out (show Below W0.heap.size W0 (w1.alloc (.cells #[.int .i64 (sqE 0 r C l),.int .i64 (whenV (decide (5<r)) 20)] 27)) by (repeat (first|assumption|exact Below.refl _ _|refine keep_drew ?_|refine keep_alloc ?_ _|refine keep_trans ?_ (by assumption)))))
  have P1:=Lib.hid (keepq (show Below W0.heap.size W0 (w1.alloc (.cells #[.int .i64 (sqE 0 r C l),.int .i64 (whenV (decide (5<r)) 20)] 27)) by (repeat (first|assumption|exact Below.refl _ _|refine keep_drew ?_|refine keep_alloc ?_ _|refine keep_trans ?_ (by assumption)))) Q1.out)
  have P2:=Lib.hid (keepq (show Below W0.heap.size W0 (w1.alloc (.cells #[.int .i64 (sqE 0 r C l),.int .i64 (whenV (decide (5<r)) 20)] 27)) by (repeat (first|assumption|exact Below.refl _ _|refine keep_drew ?_|refine keep_alloc ?_ _|refine keep_trans ?_ (by assumption)))) Q2.out)
  clear x0 x1 x2 xl hb1 hb1' fB
  generalize (w1.alloc (.cells #[.int .i64 (sqE 0 r C l),.int .i64 (whenV (decide (5<r)) 20)] 27))=W1 at HB2 P1 P2 ⊢
  obtain ⟨y0,y1,y2,yl⟩:=c3_of P1.out
  obtain ⟨yf0,yf1,yf2⟩:=f3_of P1.out
  obtain ⟨z0,zf,zl⟩:=c1_of P2.out
  go_wp2_with fail
  have g1:=q_other (i:=0) (st3_q (x0 := .int .i64 0) (x1 := .int .i64 0) (x2 := .slice none 0 0) P1.out) (show w.heap.size+1≠w.heap.size+1+1 by omega) (.int .i64 er)
  have g2:=q_set (i:=0) (q_other (i:=2) (q_other (i:=1) (q_other (i:=0) P2.out (show w.heap.size+1+1≠w.heap.size+1 by omega) (.int .i64 0)) (show w.heap.size+1+1≠w.heap.size+1 by omega) (.int .i64 0)) (show w.heap.size+1+1≠w.heap.size+1 by omega) (.slice none 0 0)) (.int .i64 er)
  have hb3:=(st3_below (x0 := .int .i64 0) (x1 := .int .i64 0) (x2 := .slice none 0 0) (b:=w.heap.size+1) HB2.out (Nat.le_succ _)).setCell (p:=⟨w.heap.size+1+1,0,none⟩) (show w.heap.size≤w.heap.size+1+1 by omega) (.int .i64 er)
  clear y0 y1 y2 yl z0 zf zl
  obtain ⟨y0,y1,y2,yl⟩:=c3_of g1
  obtain ⟨z0,zf,zl⟩:=c1_of g2
  refine marks_none (v := .tuple #[.agg #[.int .i64 0,.int .i64 0,.slice none 0 0],.int .i64 er]) ?_ rfl ⟨none,0,rfl,World.ownsRow_nil _ _ _ _,hb3⟩
  simp[results,Tryz.f21,go_sem,y0,y1,y2,z0]
end
end Go.Proofs.YtmfpdakaeagdpaaGreat
