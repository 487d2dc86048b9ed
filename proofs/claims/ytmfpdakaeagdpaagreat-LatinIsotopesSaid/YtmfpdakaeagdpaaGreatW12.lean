/- Texts J37 to J51 of this proof, in one file. -/
import Derived.Test.YtmfpdakaeagdpaaGreatW01
import Derived.Test.YtmfpdakaeagdpaaGreatW02
import Derived.Test.YtmfpdakaeagdpaaGreatW03
import Derived.Test.YtmfpdakaeagdpaaGreatW04
import Derived.Test.YtmfpdakaeagdpaaGreatW05
import Derived.Test.YtmfpdakaeagdpaaGreatW06
import Derived.Test.YtmfpdakaeagdpaaGreatW07
import Derived.Test.YtmfpdakaeagdpaaGreatW08
import Derived.Test.YtmfpdakaeagdpaaGreatW09
import Derived.Test.YtmfpdakaeagdpaaGreatW10
import Derived.Test.YtmfpdakaeagdpaaGreatW11
import Derived.Below
import Derived.BigFrame
import Derived.BigQuiet
import Derived.Deep.CutBlock
import Derived.Deep.CutRange
import Derived.Deep.LoopGhost
import Derived.Deep.Quiet
import Derived.Deep.RegionHeld3
import Derived.DeepKeys4
import Derived.KernelRfl
import Derived.Laws.BitsAllLaws
import Derived.Laws.EntriesVeiled
import Derived.Lib.Hide
import Derived.Lib.SliceRun
import Derived.LoopIn
import Derived.LoopNIn
import Derived.Maps.AppendAt
import Derived.Maps.OwnIn
import Derived.Maps.OwnSet
import Derived.OneCell
import Derived.OrdersHeld
import Derived.OrdersIn
import Derived.OwnWalkIn
import Derived.RangeFuncBound
import Derived.RangeFuncCalls
import Derived.RangeFuncLeaves
import Derived.RangeFuncNested
import Derived.Shelf.Abstract
import Derived.Still
import Derived.TacticsIn
import Derived.TacticsInMore
import Derived.Test.YtmfpdakaeagdpaaGreatProg
import Derived.WalkKit
import Derived.WalkLawsBesides
import Derived.WalkSpells
import Derived.WideKeyPair
namespace Go.Proofs.YtmfpdakaeagdpaaGreat
set_option maxRecDepth 100000
set_option maxHeartbeats 16000000
section
open Go Go.RowKit
attribute [local go_sem] over_cell
attribute [local go_sem] Oper.semAt_some
def compV (b:Nat):Value := .func (.func 154) #[] #[.pointer (some ⟨b,0,none⟩),.pointer (some ⟨b+1,0,none⟩),.pointer (some ⟨b+2,0,none⟩)]
theorem comps_c (g0 g1 g2:Value) (fk nk:Nat) (fcaps ncaps:Array Value) (w:World) :
  Calls Tryz.prog 98 #[.agg #[g0,g1,g2],.func (.func fk) #[] fcaps,.func (.func nk) #[] ncaps] w fun e w'=>e = .returned (compV w.heap.size) ∧
   w'.heap[w.heap.size]?=some (.cells #[g0,g1,g2] 24 (0,0))∧w'.heap[w.heap.size+1]?=some (.cells #[.func (.func fk) #[] fcaps] 111 (0,0))∧w'.heap[w.heap.size+2]?=some (.cells #[.func (.func nk) #[] ncaps] 112 (0,0))∧Below w.heap.size w w':=by
 go_enter Tryz.func98,Tryz.ntmps98
 go_wp2_with fail
 have fsz:(((w.alloc (.cells #[g0,g1,g2] 24)).alloc (.cells #[.func (.func fk) #[] fcaps] 111)).alloc (.cells #[.func (.func nk) #[] ncaps] 112)).heap.size=w.heap.size+3:=by simp only[World.size_alloc] <;> omega
 have fB:Below w.heap.size w (((w.alloc (.cells #[g0,g1,g2] 24)).alloc (.cells #[.func (.func fk) #[] fcaps] 111)).alloc (.cells #[.func (.func nk) #[] ncaps] 112)):=(((Below.refl _ _).alloc (Nat.le_refl _) _).alloc (by simp only[World.size_alloc];omega) _).alloc (by simp only[World.size_alloc];omega) _
 have fq0:(((w.alloc (.cells #[g0,g1,g2] 24)).alloc (.cells #[.func (.func fk) #[] fcaps] 111)).alloc (.cells #[.func (.func nk) #[] ncaps] 112)).heap[w.heap.size]?=some (.cells #[g0,g1,g2] 24 (0,0)):=by have h:=World.alloc_heap_new w (.cells #[g0,g1,g2] 24);exact (Below.heap_alloc _ _ _ (by simp only[World.size_alloc];omega)).trans ((Below.heap_alloc _ _ _ (by simp only[World.size_alloc];omega)).trans (h))
 have fq1:(((w.alloc (.cells #[g0,g1,g2] 24)).alloc (.cells #[.func (.func fk) #[] fcaps] 111)).alloc (.cells #[.func (.func nk) #[] ncaps] 112)).heap[w.heap.size+1]?=some (.cells #[.func (.func fk) #[] fcaps] 111 (0,0)):=by have h:=World.alloc_heap_new (w.alloc (.cells #[g0,g1,g2] 24)) (.cells #[.func (.func fk) #[] fcaps] 111);simp only[World.size_alloc] at h;exact (Below.heap_alloc _ _ _ (by simp only[World.size_alloc];omega)).trans (h)
 have fq2:(((w.alloc (.cells #[g0,g1,g2] 24)).alloc (.cells #[.func (.func fk) #[] fcaps] 111)).alloc (.cells #[.func (.func nk) #[] ncaps] 112)).heap[w.heap.size+1+1]?=some (.cells #[.func (.func nk) #[] ncaps] 112 (0,0)):=by have h:=World.alloc_heap_new ((w.alloc (.cells #[g0,g1,g2] 24)).alloc (.cells #[.func (.func fk) #[] fcaps] 111)) (.cells #[.func (.func nk) #[] ncaps] 112);simp only[World.size_alloc] at h;exact h
 generalize (((w.alloc (.cells #[g0,g1,g2] 24)).alloc (.cells #[.func (.func fk) #[] fcaps] 111)).alloc (.cells #[.func (.func nk) #[] ncaps] 112))=W0 at fsz fB fq0 fq1 fq2 ⊢
 go_wp2_with fail
 go_ret
 exact ⟨rfl,fq0,fq1,fq2,fB⟩
theorem KpG.trans {Prot M:Nat→Prop} {A B C:World} (h:KpG Prot M A B) (k:KpG Prot M B C):KpG Prot M A C :=
 ⟨Nat.le_trans h.1 k.1,fun i hi hk=>(k.2 i (Nat.lt_of_lt_of_le hi h.1) hk).trans (h.2 i hi hk)⟩
theorem KpG.putObj {Prot M:Nat→Prop} {W:World} {l n:Nat} (o':Obj) (hI:∀k,Prot k→k<n) (hl:n≤l) (hm:¬M l):KpG Prot M W (W.putObj l o') :=
 ⟨by simp,fun k _ hk=>World.putObj_heap_other (by
  rintro rfl
  rcases hk with hk|hk
  ·have:=hI _ hk;omega
  ·exact hm hk)⟩
theorem GivenG.putObj {m:Nat} {Prot:Nat→Prop} {x:Value × List Int} {M:Nat→Prop} {W:World} {l:Nat} {o o':Obj} (h:GivenG m Prot x M W) (hl:W.heap[l]?=some o) (ho:o.isCells=false):GivenG m Prot x M (W.putObj l o') :=
 ⟨(StaysL.putObj (L:=l) (fun _=>False) o' (Nat.le_refl _) hl ho).owns h.1 (fun _ _ e=>e),h.2.1,fun k hk=>Nat.lt_of_lt_of_le (h.2.2.1 k hk) (grownBy_putObj' W l o').size,h.2.2.2⟩
variable {P:Program}
theorem wp_rangeFunc_MA {α:Type} {g:Operand} {ps:Array Tmp} {assign body:Code} {Q:Exit→Act→World→Prop} {a:Act} {w:World}
  {gf:Nat} {lb:Array Value} (hg:a.eval g = .func (.func gf) #[] lb) (eg:∀args w,(callFunc gf args).run P w = .ok (.enter gf args) w)
  {encs:α→Array Value} {New:α→World→Prop} {Given:α→(Nat→Prop)→World→Prop} {Kp:(Nat→Prop)→World→World→Prop} {S Sp Pre:List α→Prop} {M0:Nat→Prop} (hseq:SeqP P gf lb encs New Given Kp S Sp Pre M0 w)
  (hM0:∀k,M0 k→k<w.heap.size) (hGm:∀x M (W:World),Given x M W→∀k,M k→k<W.heap.size)
  (hGb:∀x M (W:World) l o o',Given x M W→w.heap.size≤l→¬M l→W.heap[l]?=some o→o.isCells=false→Given x M (W.putObj l o'))
  (hKt:∀{M:Nat→Prop} {A B C:World},Kp M A B→Kp M B C→Kp M A C) (hKb:∀(M:Nat→Prop) (W:World) (l:Nat) (o o':Obj),w.heap.size≤l→¬M l→W.heap[l]?=some o→o.isCells=false→Kp M W (W.putObj l o')) (hps:∀x,(encs x).size=ps.size)
  (I:List α→(Nat→Prop)→World→Prop) (Ix:Code→List α→(Nat→Prop)→World→Prop) (hI:StableL w.heap.size I) (hIx:∀c,StableL w.heap.size (Ix c)) (h0:I [] M0 w) (As:α→World→Act→World→Prop) (Gx:α→Prop) (hGx:∀x M (W:World),Given x M W→Gx x)
  (hGbe:∀x M (W W':World),Given x M W→Below W.heap.size W W'→Given x M W') (hKbe:∀(M:Nat→Prop) (W W':World),Below W.heap.size W W'→Kp M W W')
  (hassign:∀(l:Nat) (x:α) (W:World) (K:Act→World→Prop),Gx x→(∀act W',Below W.heap.size W W'→As x W act W'→K act W') →
   assign.wpIn (Fence.wide.inRound l) 0 P (Exit.then K (fun _ _ _=>False)) { tmps:=(ps.zip (encs x)).foldl (fun t (p,v)=>t.setIfInBounds p v) a.tmps,defers:=[] } W)
  (hbody:∀(l:Nat) (pre:List α) (x:α) (M:Nat→Prop) (W0 W1 Wa W:World) (act:Act),I pre M W0→W0.heap.size≤W1.heap.size→StaysL w.heap.size (fun _=>False) W0 W→New x W0→Given x M W→As x W1 act Wa→(∀(b:Nat) (o:Obj),Wa.heap[b]?=some o→o.isCells=true→W.heap[b]?=some o)→(∀b,M b→b<W1.heap.size)→Pre (pre++[x])→body.wpIn (Fence.wide.inRound l) 0 P (ownPostM Kp I Ix (pre++[x]) M W) act W)
  (hdone:∀(D:Nat) (xs:List α) (M:Nat→Prop) (W:World),w.heap.size≤D→S xs→I xs M W→W.heap[D]?=some (.deferred (some []))→Q .normal { a with defers:={ target := .collected D,args:=#[] } :: a.defers } W)
  (hstop:∀(D:Nat) (c:Code) (pre:List α) (M:Nat→Prop) (W:World),w.heap.size≤D→Sp pre→Ix c pre M W→W.heap[D]?=some (.deferred (some []))→c.wp P Q { a with defers:={ target := .collected D,args:=#[] } :: a.defers } W) :
  (Code.rangeFunc g ps assign body).wp P Q a w:=by
 refine (wpIn_wide (n:=0)).1 (wpIn_rangeFunc ?_)
 intro fn hfn
 rw[show Fence.wide.round=none from rfl]
 obtain ⟨rec,hrec⟩:∃rec:LoopState→Option Code→Loop,rec=fun st pe=>{ state:=st,pending:=pe,fn,tmps:=a.tmps,params:=ps,assign,body,defers:=w.heap.size }:=⟨_,rfl⟩
 obtain ⟨W1,hW1⟩:∃W1,(w.alloc (.deferred (some []))).alloc (.loop (rec .ready none))=W1:=⟨_,rfl⟩
 have hL1:W1.heap[w.heap.size+1]?=some (.loop (rec .ready none)):=by
  rw[← hW1];have:=World.alloc_heap_new (w.alloc (.deferred (some []))) (.loop (rec .ready none));rwa [World.size_alloc] at this
 have hK1:W1.heap[w.heap.size]?=some (.deferred (some [])):=by
  rw[← hW1];exact (Below.heap_alloc _ _ _ (by simp)).trans (World.alloc_heap_new w _)
 have hI1:I [] M0 W1:=by
  rw[← hW1]
  exact hI _ M0 M0 _ _ (hI _ M0 M0 _ _ h0 (StaysL.alloc _ _ _ _) (fun k h => .inl h)) (StaysL.alloc _ _ _ _) (fun k h => .inl h)
 have hb1:Below w.heap.size w W1:=by
  rw[← hW1];exact ((Below.refl _ w).alloc (Nat.le_refl _) _).alloc (by simp) _
 have hm1:¬M0 (w.heap.size+1):=fun h=>by have:=hM0 _ h;omega
 have hm2:¬M0 w.heap.size:=fun h=>by have:=hM0 _ h;omega
 refine ⟨w.heap.size+1,[{ target := .collected w.heap.size,args:=#[] }],W1,{ target := .fn (.func gf) lb,args:=#[.func (.yield (w.heap.size+1)) #[] #[]] },W1,gf,
  #[.func (.yield (w.heap.size+1)) #[] #[]]++lb,W1,?_,?_,?_,?_,?_,?_⟩
 ·rw[← hW1,hrec];exact run_enterLoop_outer _ _ _ _ _
 ·simp only[resolve,hg]
  simp[go_sem]
 ·intro f' hf';exact trivial
 ·simp[invoke,go_sem,eg]
 ·intro h;exact absurd h (by simp[Fence.wide])
 ·refine callsIn_wide.2 ?_
  refine (hseq (w.heap.size+1)
   (fun pre M W=>I pre M W∧W.heap[w.heap.size+1]?=some (.loop (rec .ready none))∧W.heap[w.heap.size]?=some (.deferred (some []))∧¬M (w.heap.size+1)∧¬M w.heap.size)
   (fun pre M W=>∃c,Ix c pre M W∧W.heap[w.heap.size+1]?=some (.loop (rec .done (some c)))∧W.heap[w.heap.size]?=some (.deferred (some []))∧¬M (w.heap.size+1)∧¬M w.heap.size)
   W1 hb1 ?_ ?_ ?_ ⟨hI1,hL1,hK1,hm1,hm2⟩).mono ?_
  ·rintro s M M' A B ⟨hi,hl,hk,h1,h2⟩ hs hm
   have hlt:=(Array.getElem?_eq_some_iff.1 hl).1
   refine ⟨hI.m s M M' A B hi hs hm,(hs.block _ hlt h1).trans hl,(hs.block _ (by omega) h2).trans hk,fun e=>(hm _ e).elim h1 (fun h=>by omega),fun e=>(hm _ e).elim h2 (fun h=>by omega)⟩
  ·rintro s M M' A B ⟨c,hi,hl,hk,h1,h2⟩ hs hm
   have hlt:=(Array.getElem?_eq_some_iff.1 hl).1
   refine ⟨c,(hIx c).m s M M' A B hi hs hm,(hs.block _ hlt h1).trans hl,(hs.block _ (by omega) h2).trans hk,fun e=>(hm _ e).elim h1 (fun h=>by omega),fun e=>(hm _ e).elim h2 (fun h=>by omega)⟩
  ·rintro pre x M W0 W ⟨hi,hl0,hk0,h1,h2⟩ hbl hnew hgiv hpre
   have hlt0:w.heap.size+1<W0.heap.size:=(Array.getElem?_eq_some_iff.1 hl0).1
   have hl:=(hbl.block _ hlt0).trans hl0
   have hk:=(hbl.block _ (show w.heap.size<W0.heap.size by omega)).trans hk0
   have hlt:w.heap.size+1<W.heap.size:=(Array.getElem?_eq_some_iff.1 hl).1
   have hy:=run_yield (P:=P) (args:=encs x) hl (by rw[hrec];exact hps x)
   rw[hrec] at hy
   refine ⟨fn,_,assign,body,hy,roundIn_of_wpIn hfn (hassign _ x W _ (hGx _ _ _ hgiv) (fun act Wa hba has=>?_))⟩
   have hla:Wa.heap[w.heap.size+1]?=some (.loop (rec .ready none)):=(hba.block _ hlt).trans hl
   have hlta:w.heap.size+1<Wa.heap.size:=(Array.getElem?_eq_some_iff.1 hla).1
   have hka:Wa.heap[w.heap.size]?=some (.deferred (some [])):=(hba.block _ (by omega)).trans hk
   refine ⟨_,run_beginRound hla (by rw[hrec]),?_⟩
   have hl2:(Wa.putObj (w.heap.size+1) (.loop { rec .ready none with state := .busy })).heap[w.heap.size+1]?=some (.loop { rec .ready none with state := .busy }):=World.putObj_heap_same hlta
   have hk2:(Wa.putObj (w.heap.size+1) (.loop { rec .ready none with state := .busy })).heap[w.heap.size]?=some (.deferred (some [])):=(World.putObj_heap_other (by omega)).trans hka
   have hw2:Kp M W (Wa.putObj (w.heap.size+1) (.loop { rec .ready none with state := .busy })):=hKt (hKbe _ _ _ hba) (hKb _ _ _ _ _ (by omega) h1 hla rfl)
   have hb0a:Below W0.heap.size W0 Wa:=hbl.trans (hba.mono hbl.size)
   have hcl:∀(b:Nat) (o:Obj),Wa.heap[b]?=some o→o.isCells=true→(Wa.putObj (w.heap.size+1) (.loop { rec .ready none with state := .busy })).heap[b]?=some o:=fun b o hb ho=>by
    refine (World.putObj_heap_other (fun e=>?_)).trans hb
    subst e
    rw[hb] at hla
    cases hla
    cases ho
   refine wpIn_mono (hbody _ pre x M W0 W Wa _ act hi hbl.size (((Below.stays hb0a (fun _=>False)).toL _).trans (StaysL.putObj _ _ (by omega) hla rfl)) hnew (hGb _ _ _ _ _ _ (hGbe _ _ _ _ hgiv hba) (by omega) h1 hla rfl) has hcl (hGm _ _ _ hgiv) hpre) ?_
   have fin:∀(jump:Option Code) (W3:World),KeepsOthers (Wa.putObj (w.heap.size+1) (.loop { rec .ready none with state := .busy })) W3 →
     (Instr.endRound (w.heap.size+1) jump).run P W3 = .ok (.bool jump.isNone) (W3.putObj (w.heap.size+1) (.loop (rec (if jump.isNone then .ready else .done) jump))) ∧
     W3.heap[w.heap.size+1]?=some (.loop { rec .ready none with state := .busy }) ∧
     (W3.putObj (w.heap.size+1) (.loop (rec (if jump.isNone then .ready else .done) jump))).heap[w.heap.size+1]?=some (.loop (rec (if jump.isNone then .ready else .done) jump)) ∧
     (W3.putObj (w.heap.size+1) (.loop (rec (if jump.isNone then .ready else .done) jump))).heap[w.heap.size]?=some (.deferred (some [])):=fun jump W3 hk3=>by
    have hl3:=hk3.same _ _ hl2 rfl
    have:=run_endRound (P:=P) jump hl3
    rw[hrec] at this ⊢
    exact ⟨this,by rw[hrec] at hl3;exact hl3,World.putObj_heap_same (Array.getElem?_eq_some_iff.1 hl3).1,(World.putObj_heap_other (by omega)).trans (hk3.same _ _ hk2 rfl)⟩
   rintro e a3 W3 hp
   cases e with
   | normal =>
    obtain ⟨hk3,hkp3,hi3⟩:=hp
    obtain ⟨hr,hl3,hl4,hk4⟩:=fin none W3 hk3
    exact ⟨_,_,hr,.inl ⟨rfl,⟨hI _ M M _ _ hi3 (StaysL.putObj M _ (by omega) hl3 rfl) (fun k h => .inl h),hl4,hk4,h1,h2⟩,hKt (hKt hw2 hkp3) (hKb _ _ _ _ _ (by omega) h1 hl3 rfl)⟩⟩
   | ret =>
    obtain ⟨hk3,hkp3,hi3⟩:=hp
    obtain ⟨hr,hl3,hl4,hk4⟩:=fin (some .ret) W3 hk3
    exact ⟨_,_,hr,.inr ⟨rfl,⟨.ret,hIx _ _ M M _ _ hi3 (StaysL.putObj M _ (by omega) hl3 rfl) (fun k h => .inl h),hl4,hk4,h1,h2⟩,hKt (hKt hw2 hkp3) (hKb _ _ _ _ _ (by omega) h1 hl3 rfl)⟩⟩
   | exit id =>
    obtain ⟨hk3,hkp3,hi3⟩:=hp
    obtain ⟨hr,hl3,hl4,hk4⟩:=fin (some (.exit id)) W3 hk3
    exact ⟨_,_,hr,.inr ⟨rfl,⟨.exit id,hIx _ _ M M _ _ hi3 (StaysL.putObj M _ (by omega) hl3 rfl) (fun k h => .inl h),hl4,hk4,h1,h2⟩,hKt (hKt hw2 hkp3) (hKb _ _ _ _ _ (by omega) h1 hl3 rfl)⟩⟩
   | goto t =>
    obtain ⟨hk3,hkp3,hi3⟩:=hp
    obtain ⟨hr,hl3,hl4,hk4⟩:=fin (some (.goto t)) W3 hk3
    exact ⟨_,_,hr,.inr ⟨rfl,⟨.goto t,hIx _ _ M M _ _ hi3 (StaysL.putObj M _ (by omega) hl3 rfl) (fun k h => .inl h),hl4,hk4,h1,h2⟩,hKt (hKt hw2 hkp3) (hKb _ _ _ _ _ (by omega) h1 hl3 rfl)⟩⟩
   | panic ch=>exact hp.elim
   | outgrown=>exact hp.elim
  ·rintro e W2 ⟨⟨v,rfl⟩,(⟨xs,M,hS,hi,hl,hk,h1,h2⟩|⟨pre,M,hSp,c,hi,hl,hk,h1,h2⟩)⟩
   ·exact ⟨none,_,by have:=run_endLoop (P:=P) hl (by rw[hrec];simp);rw[hrec] at this;exact this,hdone _ xs M _ (Nat.le_refl _) hS (hI _ M M _ _ hi (StaysL.putObj M _ (by omega) hl rfl) (fun k h => .inl h)) ((World.putObj_heap_other (by omega)).trans hk)⟩
   ·exact ⟨some c,_,by have:=run_endLoop (P:=P) hl (by rw[hrec];simp);rw[hrec] at this;exact this,wpIn_wide.2 (hstop _ c pre M _ (Nat.le_refl _) hSp (hIx c _ M M _ _ hi (StaysL.putObj M _ (by omega) hl rfl) (fun k h => .inl h)) ((World.putObj_heap_other (by omega)).trans hk))⟩
theorem wp_range_comp {g:Operand} {p:Tmp} {assign body:Code} {Q:Exit→Act→World→Prop} {a:Act} {w:World} (bP:Nat) (n:Nat) (ar:Option Addr) (m c:Nat) (ps:List Int) (fk:Nat) (fcaps:Array Value) (nk:Nat) (ncaps:Array Value) (Old MN:Nat→Prop) (ok:Nat→Int→List Int→Bool) (Nt:List Int→World→Prop)
  (S:SideP n ps fk fcaps nk ncaps Old MN ok Nt) (hp:Part n ps) (hm:m=n*n)
  (hqP:w.heap[bP]?=some (.cells #[.int .i64 (n:Int),.int .i64 (n:Int),.slice ar m c] 24 (0,0)))
  (hqFr:w.heap[bP+1]?=some (.cells #[.func (.func fk) #[] fcaps] 111 (0,0)))
  (hqNo:w.heap[bP+2]?=some (.cells #[.func (.func nk) #[] ncaps] 112 (0,0)))
  (hic:Sure Old w (fun w=>IC w ar m ps)) (hOl:∀k,Old k→k<w.heap.size) (hMN:∀k,MN k→k<w.heap.size) (hap:∀k,MN k→¬Old k∧k≠bP∧k≠bP+1∧k≠bP+2) (hNt:Nt ps w) (hg:a.eval g=compV bP)
  (I:List (Value × List Int)→(Nat→Prop)→World→Prop) (Ix:Code→List (Value × List Int)→(Nat→Prop)→World→Prop) (hI:StableL w.heap.size I) (hIx:∀c,StableL w.heap.size (Ix c)) (h0:I [] MN w) (As:Value × List Int→World→Act→World→Prop)
  (hassign:∀(l:Nat) (x:Value × List Int) (W:World) (K:Act→World→Prop),(∃av nv cv,x.1 = .slice av nv cv)→(∀act W',Below W.heap.size W W'→As x W act W'→K act W') →
   assign.wpIn (Fence.wide.inRound l) 0 Tryz.prog (Exit.then K (fun _ _ _=>False)) { tmps:=a.tmps.setIfInBounds p (.agg #[.int .i64 (n:Int),.int .i64 (n:Int),x.1]),defers:=[] } W)
  (hbody:∀(l:Nat) (pre:List (Value × List Int)) (x:Value × List Int) (M:Nat→Prop) (W0 W1 Wa W:World) (act:Act),I pre M W0→W0.heap.size≤W1.heap.size→StaysL w.heap.size (fun _=>False) W0 W→NewC x W0→GivenG m (fun k=>Old k∨k=bP∨k=bP+1∨k=bP+2) x M W→As x W1 act Wa→(∀(b:Nat) (o:Obj),Wa.heap[b]?=some o→o.isCells=true→W.heap[b]?=some o)→(∀b,M b→b<W1.heap.size)→(pre++[x]).map Prod.snd <+: compP n ok m 0 ps→body.wpIn (Fence.wide.inRound l) 0 Tryz.prog (ownPostM (KpG (fun k=>Old k∨k=bP∨k=bP+1∨k=bP+2)) I Ix (pre++[x]) M W) act W)
  (hdone:∀(D:Nat) (xs:List (Value × List Int)) (M:Nat→Prop) (W:World),w.heap.size≤D→xs.map Prod.snd=compP n ok m 0 ps→I xs M W→W.heap[D]?=some (.deferred (some []))→Q .normal { a with defers:={ target := .collected D,args:=#[] } :: a.defers } W)
  (hstop:∀(D:Nat) (c:Code) (pre:List (Value × List Int)) (M:Nat→Prop) (W:World),w.heap.size≤D→pre.map Prod.snd <+: compP n ok m 0 ps→pre≠[]→Ix c pre M W→W.heap[D]?=some (.deferred (some []))→c.wp Tryz.prog Q { a with defers:={ target := .collected D,args:=#[] } :: a.defers } W) :
  (Code.rangeFunc g #[p] assign body).wp Tryz.prog Q a w:=by
 have hprot:∀k,(Old k∨k=bP∨k=bP+1∨k=bP+2)→k<w.heap.size:=by
  rintro k (e|e|e|e)
  ·exact hOl k e
  ·rw[e];exact q_lt hqP
  ·rw[e];exact q_lt hqFr
  ·rw[e];exact q_lt hqNo
 refine wp_rangeFunc_MA (gf:=154) (lb:=#[.pointer (some ⟨bP,0,none⟩),.pointer (some ⟨bP+1,0,none⟩),.pointer (some ⟨bP+2,0,none⟩)]) hg (enters_of Tryz.func154 (by kernel_rfl) rfl)
  (comp_seq bP (bP+1) (bP+2) n ar m c ps fk fcaps nk ncaps w Old MN ok Nt S hp hm hqP hqFr hqNo hic hOl hMN hap hNt) (fun k hk=>hMN k hk) (fun x M W h=>h.2.2.1) (fun x M W l o o' hG _ _ hl ho=>hG.putObj hl ho) (fun h k=>h.trans k)
  (fun M W l o o' hl hm _ _=>KpG.putObj o' hprot hl hm) (fun _=>rfl) I Ix hI hIx h0 As (fun x=>∃av nv cv,x.1 = .slice av nv cv) (fun x M W h=>(owns_shape h.1).elim fun av h=>h.elim fun cv h=>⟨av,_,cv,h⟩)
  (fun x M W W' h hb=>⟨owns_keep h.1 (fun k _ hl=>hb.block k hl),h.2.1,fun k e=>Nat.lt_of_lt_of_le (h.2.2.1 k e) hb.size,h.2.2.2⟩) (fun M W W' hb=>⟨hb.size,fun k hl _=>hb.block k hl⟩)
  (fun l x W K hx hK=>by
   have e:(#[p].zip (encG n x)).foldl (fun t (p,v)=>t.setIfInBounds p v) a.tmps=a.tmps.setIfInBounds p (.agg #[.int .i64 (n:Int),.int .i64 (n:Int),x.1]):=by simp[encG]
   rw[e];exact hassign l x W K hx hK) hbody hdone (fun D c pre M W hD hS=>hstop D c pre M W hD hS.1 hS.2)
theorem owns_shape3 {w:World} {base:Nat} {e:TypeId} {v:Value} {n:Nat} {xs:List Value} (h:w.ownsRow base e 3 v n xs):∃a c,v = .slice a n c:=by
 rcases h.2 with ⟨h2,h3⟩|⟨g,cap,cur,h2,_⟩
 ·exact ⟨none,0,by rw[h2,h3]⟩
 ·exact ⟨_,_,h2⟩
def takeI (most:Int) (L:List (List Int)):List (List Int):=if most<1 then L else L.take most.toNat
def TakI (n:Nat) (w:World) (L b3 b5:Nat) (most:Int) (pre:List (Value × List Int)) (M:Nat→Prop) (W:World):Prop :=
 OldI w.heap.size w W M∧BoxI W M b3 #[.int .i64 most] 3∧(∃v,BoxI W M b5 #[v] 35∧GridsI n W M L v pre)∧L≤W.heap.size∧(1≤most→(pre.length:Int)<most)
theorem takI_stable {n:Nat} {w:World} {L b3 b5:Nat} {most:Int} {L':Nat} (h1:w.heap.size≤L'):StableL L' (TakI n w L b3 b5 most) :=
 stable_and (stable_old h1 (Nat.le_refl _)) (stable_and (stable_box _ _ _) (stable_and (stable_ex fun v=>stable_and (stable_box _ _ _) (stable_grids n v)) (stable_and stable_size (stable_pure (fun (pre:List (Value × List Int))=>1≤most→(pre.length:Int)<most)))))
def TakX (n:Nat) (w:World) (L b5:Nat) (most:Int) (c:Code) (pre:List (Value × List Int)) (M:Nat→Prop) (W:World):Prop :=
 c = .exit 0∧OldI w.heap.size w W M∧(∃v,BoxI W M b5 #[v] 35∧GridsI n W M L v pre)∧L≤W.heap.size∧(pre.length:Int)=most
theorem takX_stable {n:Nat} {w:World} {L b5:Nat} {most:Int} {L':Nat} (h1:w.heap.size≤L') (c:Code):StableL L' (TakX n w L b5 most c) :=
 stable_and (stable_pure _) (stable_and (stable_old h1 (Nat.le_refl _)) (stable_and (stable_ex fun v=>stable_and (stable_box _ _ _) (stable_grids n v)) (stable_and stable_size (stable_pure _))))
theorem taking_c (bP:Nat) (n:Nat) (ar:Option Addr) (m c:Nat) (ps:List Int) (most:Int) (w:World) (hp:Part n ps) (hm:m=n*n)
  (hqP:w.heap[bP]?=some (.cells #[.int .i64 (n:Int),.int .i64 (n:Int),.slice ar m c] 24 (0,0)))
  (hqFr:w.heap[bP+1]?=some (.cells #[.func (.func 105) #[] #[]] 111 (0,0)))
  (hqNo:w.heap[bP+2]?=some (.cells #[.func (.func 106) #[] #[]] 112 (0,0)))
  (hic:IC w ar m ps) (hbd:(1≤most∧most≤1000000000)∨(compP n okT m 0 ps).length≤1000000000000) :
  Calls Tryz.prog 104 #[compV bP,.int .i64 most] w fun e w'=>∃v pre,e = .returned v∧GridsI n w' noB w.heap.size v pre∧pre.map Prod.snd=takeI most (compP n okT m 0 ps)∧Below w.heap.size w w':=by
 refine calls_of_marks Tryz.func104 rfl ?_
 simp only[Tryz.ntmps104,List.size_toArray,List.length_cons,List.length_nil,Nat.reduceAdd,Nat.reduceSub,Array.replicate_succ,Array.replicate_zero,List.push_toArray,List.append_toArray,List.nil_append,List.cons_append]
 have HP:=Lib.hid hp
 have HM:=Lib.hid hm
 have HIC:=Lib.hid (ic_sure hic)
 have QP:=Lib.hid hqP
 have QFr:=Lib.hid hqFr
 have QNo:=Lib.hid hqNo
 have HBD:=Lib.hid hbd
 clear hp hm hic hqP hqFr hqNo hbd
 unfold compV
 go_wp2_with fail
 have fsz:((w.alloc (.cells #[.int .i64 most] 3)).alloc (.cells #[.slice none 0 0] 35)).heap.size=w.heap.size+2:=by simp only[World.size_alloc] <;> omega
 have fB:Below w.heap.size w ((w.alloc (.cells #[.int .i64 most] 3)).alloc (.cells #[.slice none 0 0] 35)):=((Below.refl _ _).alloc (Nat.le_refl _) _).alloc (by simp only[World.size_alloc];omega) _
 have fq0:((w.alloc (.cells #[.int .i64 most] 3)).alloc (.cells #[.slice none 0 0] 35)).heap[w.heap.size]?=some (.cells #[.int .i64 most] 3 (0,0)):=by have h:=World.alloc_heap_new w (.cells #[.int .i64 most] 3);exact (Below.heap_alloc _ _ _ (by simp only[World.size_alloc];omega)).trans (h)
 have fq1:((w.alloc (.cells #[.int .i64 most] 3)).alloc (.cells #[.slice none 0 0] 35)).heap[w.heap.size+1]?=some (.cells #[.slice none 0 0] 35 (0,0)):=by have h:=World.alloc_heap_new (w.alloc (.cells #[.int .i64 most] 3)) (.cells #[.slice none 0 0] 35);simp only[World.size_alloc] at h;exact h
 generalize ((w.alloc (.cells #[.int .i64 most] 3)).alloc (.cells #[.slice none 0 0] 35))=W0 at fsz fB fq0 fq1 ⊢
 have HSZ:=Lib.hid fsz
 have hsz:w.heap.size+1<W0.heap.size:=by omega
 clear fsz
 obtain ⟨i0,hi,hz0,hz1,hz2⟩:=info_parts infoGrid
 refine wp_range_comp bP n ar m c ps 105 #[] 106 #[] (fun k=>k<w.heap.size) (fun _=>False) okT (fun _ _=>True) (sideT n ps _) HP.out HM.out (keepq fB QP.out) (keepq fB QFr.out) (keepq fB QNo.out) (HIC.out.keep fB.size (fun k e=>fB.block k e)) (fun k e=>Nat.lt_of_lt_of_le e fB.size) (fun k e=>e.elim) (fun k e=>e.elim) trivial rfl
  (TakI n w W0.heap.size w.heap.size (w.heap.size+1) most) (TakX n w W0.heap.size (w.heap.size+1) most) ?hI ?hIx ?h0 ?As ?assign ?body ?done ?stop
 case hI=>exact takI_stable fB.size
 case hIx=>exact takX_stable fB.size
 case h0=>exact ⟨⟨fB,fun k e=>e.elim⟩,⟨fq0,fun e=>e⟩,⟨_,⟨fq1,fun e=>e⟩,GridsI.nil _ _ _ _⟩,Nat.le_refl _,fun h=>by simp;omega⟩
 case As=>exact fun x W act Wa=>act={ tmps:=#[compV bP,.int .i64 most,undef,.pointer (some ⟨w.heap.size,0,none⟩),.slice none 0 0,.pointer (some ⟨w.heap.size+1,0,none⟩),.pointer (some ⟨W.heap.size,0,none⟩),compV bP,.agg #[.int .i64 (n:Int),.int .i64 (n:Int),x.1],undef,undef,undef,undef,undef,undef,undef,undef,undef],defers:=[] }∧Wa.heap[W.heap.size]?=some (.cells #[.int .i64 (n:Int),.int .i64 (n:Int),x.1] 24 (0,0))
 case assign =>
  rintro l ⟨xv,xl⟩ W K ⟨xa,xn,xc,hxv⟩ hK
  dsimp only at hxv
  subst hxv
  gi_wp2
  refine hK _ _ ((Below.refl _ _).alloc (Nat.le_refl _) _) ⟨?_,World.alloc_heap_new _ _⟩
  rfl
 case body =>
  rintro l pre ⟨xv,xl⟩ M W4 W1 Wa W act hI0 hs01 hst hnew hgiv ⟨rfl,hqx⟩ hcl hMlt hpre
  obtain ⟨⟨hBB4,hM⟩,⟨q34,m3⟩,⟨v,⟨q54,m5⟩,hrow4⟩,hsz4,hle⟩:=hI0
  have q3:=hst.at q34 (fun e=>e)
  have q5:=hst.at q54 (fun e=>e)
  have hrow:=hrow4.keep (hst.mono (M':=M) (fun _ e=>e.elim)) (fun _ e => .inl e)
  have hsz2:=Nat.le_trans hsz4 hst.size
  have hfb:=fB.size
  have hBB:Below w.heap.size w W:=hst.below hBB4 hfb (Nat.le_refl _) (fun _ e=>e.elim)
  have hv4:∀k,v.ownBlock=some k→k<W4.heap.size:=fun k e=>(hrow4.1.lt k e).2
  have hqW:=hcl _ _ hqx rfl
  clear hrow4 q34 q54 hqx hcl
  obtain ⟨xa,xc,hxv⟩:=owns_shape hgiv.1
  dsimp only at hxv
  subst hxv
  obtain ⟨av,cv,rfl⟩:=owns_shape3 hrow.1
  dsimp only at hqW hgiv
  obtain ⟨b0,b1,b2,bl⟩:=c3_of hqW
  have c3:=q_cell q3 0
  have c5:=q_cell q5 0
  have f5:=q_free q5 0
  have hv3:¬(Value.slice av pre.length cv).ownBlock=some w.heap.size:=fun e=>by have:=(hrow.1.lt _ e).1;omega
  have hv5:¬(Value.slice av pre.length cv).ownBlock=some (w.heap.size+1):=fun e=>by have:=(hrow.1.lt _ e).1;omega
  have hlenb:pre.length+1≤1000000000001:=by
   rcases HBD.out with h|h
   ·have:=hle h.1;omega
   ·have:=hpre.length_le
    rw[List.length_map,List.length_append,List.length_singleton] at this
    omega
  have hxn:∀k,(Value.slice xa xl.length xc).ownBlock=some k→(W0.heap.size≤k∧¬M k)∧(Value.slice av pre.length cv).ownBlock≠some k:=fun k e=>⟨⟨by have:=hnew k e;omega,(hgiv.2.1 k e).2⟩,fun e2=>by have h1:=hv4 k e2;have h2:=hnew k e;omega⟩
  have hfin:∀w1 v',(W.alloc (.cells #[.int .i64 (n:Int),.int .i64 (n:Int),.slice xa xl.length xc] 24)).grownBy w1 (Value.slice av pre.length cv).ownBlock→w1.ownsRow W0.heap.size 24 3 v' (pre.length+1) (gcells n pre++[.int .i64 (n:Int),.int .i64 (n:Int),.slice xa xl.length xc])→(v'.ownBlock=(Value.slice av pre.length cv).ownBlock∨v'.ownBlock=some (W.alloc (.cells #[.int .i64 (n:Int),.int .i64 (n:Int),.slice xa xl.length xc] 24)).heap.size) →
    KeepsOthers W (w1.setCell ⟨w.heap.size+1,0,none⟩ v')∧KpG (fun k=>k<w.heap.size∨k=bP∨k=bP+1∨k=bP+2) M W (w1.setCell ⟨w.heap.size+1,0,none⟩ v')∧OldI w.heap.size w (w1.setCell ⟨w.heap.size+1,0,none⟩ v') M∧BoxI (w1.setCell ⟨w.heap.size+1,0,none⟩ v') M w.heap.size #[.int .i64 most] 3∧BoxI (w1.setCell ⟨w.heap.size+1,0,none⟩ v') M (w.heap.size+1) #[v'] 35∧GridsI n (w1.setCell ⟨w.heap.size+1,0,none⟩ v') M W0.heap.size v' (pre++[(.slice xa xl.length xc,xl)])∧W0.heap.size≤(w1.setCell ⟨w.heap.size+1,0,none⟩ v').heap.size:=by
   intro w1 v' hgrow hown' hnew'
   have hs2:=grow_stays hgrow
   have q3':=hs2.q q3 hv3
   have q5':=hs2.q q5 hv5
   have hr:=hrow.append hgiv.2.2.1 hgiv.1 hxn hs2 hown' (fun k e=>hnew'.imp (fun e2=>by rw[← e2];exact e) (fun e2=>by rw[e2] at e;cases e;simp))
   have hset:∀k,k<w1.heap.size→k≠w.heap.size+1→(w1.setCell ⟨w.heap.size+1,0,none⟩ v').heap[k]?=w1.heap[k]?:=fun k _ hk=>Below.heap_setCell _ _ _ _ hk
   have hvB:∀k,(Value.slice av pre.length cv).ownBlock=some k→W0.heap.size≤k:=fun k e=>(hrow.1.lt k e).1
   have hbp:=q_lt QNo.out
   have hpr:∀k,(k<w.heap.size∨k=bP∨k=bP+1∨k=bP+2)→k<w.heap.size:=by
    rintro k (e|e|e|e) <;> omega
   refine ⟨?_,?_,⟨?_,hM⟩,⟨q_other q3' (by omega) _,m3⟩,⟨q_set q5' _,m5⟩,hr.setCell (by omega) _,?_⟩
   ·refine ((KeepsOthers.alloc W _).trans (KeepsOthers.of_grownBy hgrow ?_)).trans (KeepsOthers.setCell _ _ _)
    intro j o e ho
    exact owns_cells (hrow.1.alloc _) e ho
   ·refine ⟨?_,fun k hk hb=>(hset k (Nat.lt_of_lt_of_le hk hs2.size) ?_).trans (hs2.block k hk ?_)⟩
    ·have:=hs2.size
     have h2:(w1.setCell ⟨w.heap.size+1,0,none⟩ v').heap.size=w1.heap.size:=by simp[World.setCell]
     omega
    ·rintro rfl
     rcases hb with hb|hb
     ·have:=hpr _ hb;omega
     ·exact m5 hb
    ·intro e
     have:=hvB k e
     rcases hb with hb|hb
     ·have:=hpr _ hb;omega
     ·exact hrow.2.1 k e hb
   ·refine Below.setCell (p:=⟨w.heap.size+1,0,none⟩) ?_ (by show w.heap.size≤w.heap.size+1;omega) _
    exact hBB.trans (hs2.below (by have:=hBB.size;omega) (fun k e=>by have:=hvB k e;omega))
   ·have:=hs2.size
    have h2:(w1.setCell ⟨w.heap.size+1,0,none⟩ v').heap.size=w1.heap.size:=by simp[World.setCell]
    omega
  by_cases hb:(pre.length:Int)+1=most
  ·have hb1:(((pre.length:Int)+1)==most)=true:=by simpa using hb
   have HB:=Lib.hid hb
   have HFIN:=Lib.hid hfin
   clear hb hfin
   gi_wp2_with (gi_at_builtin;refine wpListIn_append_own_at _ rfl _ _ 35 rfl W0.heap.size 24 i0 (.agg #[.int .i64 0,.int .i64 0,.slice none 0 0]) 3 40 Tryz.underlying35 hi hz0 hz1 hz2 rfl (by decide) _ _ _ rfl (hrow.1.alloc _) ⟨W.heap.size,0,none⟩ 1 1 [.int .i64 (n:Int),.int .i64 (n:Int),.slice xa xl.length xc] rfl rfl (cell_new3 _ _ _ _ _) (by simp[Value.oneCell']) (by unfold maxLen;omega) (by omega) (by simp;omega) ?_;intro v' w1 hown' hgrow _ hnew';obtain ⟨av',cv',rfl⟩:=owns_shape3 hown';have hs2:=grow_stays hgrow;have q3':=hs2.q q3 hv3;have q5':=hs2.q q5 hv5;have c3':=q_cell q3' 0;have c5':=q_cell q5' 0;have f5':=q_free q5' 0)
   obtain ⟨a1,a2,a3,a4,a5,a6,a7⟩:=HFIN.out _ _ hgrow hown' hnew'
   exact ⟨a1,a2,rfl,a3,⟨_,a5,a6⟩,a7,by have:=HB.out;simp;omega⟩
  ·have hb1:(((pre.length:Int)+1)==most)=false:=by simpa using hb
   have HB:=Lib.hid hb
   have HFIN:=Lib.hid hfin
   clear hb hfin
   gi_wp2_with (gi_at_builtin;refine wpListIn_append_own_at _ rfl _ _ 35 rfl W0.heap.size 24 i0 (.agg #[.int .i64 0,.int .i64 0,.slice none 0 0]) 3 40 Tryz.underlying35 hi hz0 hz1 hz2 rfl (by decide) _ _ _ rfl (hrow.1.alloc _) ⟨W.heap.size,0,none⟩ 1 1 [.int .i64 (n:Int),.int .i64 (n:Int),.slice xa xl.length xc] rfl rfl (cell_new3 _ _ _ _ _) (by simp[Value.oneCell']) (by unfold maxLen;omega) (by omega) (by simp;omega) ?_;intro v' w1 hown' hgrow _ hnew';obtain ⟨av',cv',rfl⟩:=owns_shape3 hown';have hs2:=grow_stays hgrow;have q3':=hs2.q q3 hv3;have q5':=hs2.q q5 hv5;have c3':=q_cell q3' 0;have c5':=q_cell q5' 0;have f5':=q_free q5' 0)
   obtain ⟨a1,a2,a3,a4,a5,a6,a7⟩:=HFIN.out _ _ hgrow hown' hnew'
   exact ⟨a1,a2,a3,a4,⟨_,a5,a6⟩,a7,fun h1=>by have:=HB.out;have:=hle h1;simp;omega⟩
 case done =>
  rintro D xs M W hD hS ⟨⟨hBB,hM⟩,⟨q3,m3⟩,⟨v,⟨q5,m5⟩,hrow⟩,hsz2,hle⟩ hK
  have hrow2:=(hrow.keep (StaysL.putObj (L:=0) M (.deferred none) (Nat.zero_le _) hK rfl) (M':=noB) (fun _ e=>e.elim)).base (L':=w.heap.size) (by omega)
  have c5:=q_cell q5 0
  have HS:=Lib.hid hS
  have HR:=Lib.hid hrow2
  have HLE:=Lib.hid hle
  clear hS hrow hrow2 hle
  go_wp2
  refine marks_one (v:=v) hK rfl (by simp[results,Tryz.f104,go_sem]) ⟨v,xs,rfl,HR.out,?_,putD_below hBB (by omega)⟩
  rw[← HS.out]
  unfold takeI
  split
  ·rfl
  ·rename_i h1
   have:=HLE.out (by omega)
   rw[List.take_of_length_le (by simp;omega)]
 case stop =>
  rintro D c pre M W hD hS hne ⟨rfl,⟨hBB,hM⟩,⟨v,⟨q5,m5⟩,hrow⟩,hsz2,hle⟩ hK
  have hrow2:=(hrow.keep (StaysL.putObj (L:=0) M (.deferred none) (Nat.zero_le _) hK rfl) (M':=noB) (fun _ e=>e.elim)).base (L':=w.heap.size) (by omega)
  have c5:=q_cell q5 0
  have HS:=Lib.hid hS
  have HR:=Lib.hid hrow2
  have HL:=Lib.hid hle
  clear hS hle hrow hrow2
  go_wp2
  refine marks_one (v:=v) hK rfl (by simp[results,Tryz.f104,go_sem]) ⟨v,pre,rfl,HR.out,?_,putD_below hBB (by omega)⟩
  have h1:=List.prefix_iff_eq_take.1 HS.out
  rw[List.length_map] at h1
  unfold takeI
  have h3:=HL.out
  have h4:0<pre.length:=List.length_pos_iff.2 hne
  have h2:¬most<1:=by omega
  rw[if_neg h2,h1,show pre.length=most.toNat from by omega]
theorem GridsI.gl {n:Nat} {W:World} {M:Nat→Prop} {L:Nat} {v:Value} {pre:List (Value × List Int)} (h:GridsI n W M L v pre) (hn:pre.length≤17592186044416) (hm:∀x,x∈pre→x.2.length≤17592186044416) :
  ∃a c,v = .slice a pre.length c∧GL W a pre.length n (pre.map Prod.snd):=by
 obtain ⟨a,c,rfl⟩:=owns_shape3 h.1
 refine ⟨a,c,rfl,⟨by rw[List.length_map],hn⟩,fun k hk=>?_⟩
 rcases h.1.2 with ⟨e,e2⟩|⟨g,cap,cur,hv,hg,hh,hnc,hcm,hsz,htk⟩
 ·simp only[Value.slice.injEq] at e
  omega
 ·simp only[Value.slice.injEq] at hv
  obtain ⟨rfl,_,rfl⟩:=hv
  have hglt:g<W.heap.size:=q_lt hh
  have hat:∀j,j<pre.length*3→W.cell? ⟨g,0+j,none⟩=(gcells n pre)[j]?:=fun j hj=>by
   rw[Nat.zero_add,cell_of_row W g j cur _ (0,0) hh,← htk,List.getElem?_take,if_pos hj]
   simp
  obtain ⟨g0,g1,g2⟩:=gcells_at n pre k hk
  have hrow:=(h.2.2 _ (List.getElem_mem hk)).1
  obtain ⟨a9,c9,he9⟩:=owns_shape hrow
  rw[he9] at hrow
  have hic:=IC.of_owns hrow (hm _ (List.getElem_mem hk))
  have hk2:(pre.map Prod.snd)[k]?.getD []=(pre[k]'hk).2:=by rw[List.getElem?_map,List.getElem?_eq_getElem hk];rfl
  rw[hk2]
  exact ⟨g,0,a9,c9,rfl,hglt,(hat _ (by omega)).trans g0,(hat _ (by omega)).trans g1,(hat _ (by omega)).trans (g2.trans (by rw[he9])),hic.1,hic.2⟩
end
section
def fldP (q:Nat):Nat:=if q=4∨q=8∨q=16 then 2 else if q=9 then 3 else q
def fldZ (q:Nat):List Int:=if q=4 then [1,1] else if q=8 then [1,1,0] else if q=16 then [1,1,0,0] else if q=9 then [1,0] else [0]
def primeB (q:Nat):Bool:=decide (2≤q)&&(List.range q).all fun k=>decide (k<2)||decide (q % k≠0)
def fldB (q:Nat):Bool:=decide (q=4)||decide (q=8)||decide (q=16)||decide (q=9)||primeB q
def dgtL (p:Nat):Nat→Nat→List Int
 | 0,_=>[]
 | k+1,x=>((x % p:Nat):Int) :: dgtL p k (x / p)
theorem dgtL_len (p:Nat):∀k x,(dgtL p k x).length=k
 | 0,_=>rfl
 | k+1,x=>by rw[dgtL,List.length_cons,dgtL_len p k]
theorem dgtL_snoc (p:Nat):∀k x,dgtL p (k+1) x=dgtL p k x++[((x / p ^ k % p:Nat):Int)]
 | 0,x=>by simp[dgtL]
 | k+1,x=>by
  rw[dgtL,dgtL_snoc p k (x / p),dgtL,List.cons_append,Nat.div_div_eq_div_mul,Nat.pow_succ,Nat.mul_comm p]
theorem dgtL_get (p:Nat):∀k x i,i<k→(dgtL p k x)[i]?.getD 0=((x / p ^ i % p:Nat):Int)
 | 0,_,i,h=>absurd h (by omega)
 | k+1,x,0,_=>by simp[dgtL]
 | k+1,x,i+1,h=>by
  rw[dgtL,List.getElem?_cons_succ,dgtL_get p k (x / p) i (by omega),Nat.div_div_eq_div_mul,Nat.pow_succ,Nat.mul_comm p]
theorem dgtL_num (p:Nat) (hp:1≤p) (k x i:Nat):0≤(dgtL p k x)[i]?.getD 0∧(dgtL p k x)[i]?.getD 0<(p:Int):=by
 rcases Nat.lt_or_ge i k with h|h
 ·rw[dgtL_get p k x i h]
  have:=Nat.mod_lt (x / p ^ i) (show 0<p by omega)
  omega
 ·rw[List.getElem?_eq_none (by rw[dgtL_len];exact h)]
  simp;omega
def elemL (p:Nat) (l:List Int):Int:=l.foldr (fun c acc=>acc*(p:Int)+c % (p:Int)) 0
theorem elemL_num (p:Nat) (hp:1≤p):∀l:List Int,0≤elemL p l∧elemL p l<((p ^ l.length:Nat):Int)
 | []=>by simp[elemL]
 | c :: l=>by
  obtain ⟨h0,h1⟩:=elemL_num p hp l
  have h2:=Int.emod_nonneg c (show (p:Int)≠0 by omega)
  have h3:=Int.emod_lt_of_pos c (show (0:Int)<(p:Int) by omega)
  have e:elemL p (c :: l)=elemL p l*(p:Int)+c % (p:Int):=rfl
  rw[e,List.length_cons,Nat.pow_succ]
  push_cast at h1 ⊢
  constructor
  ·have:=Int.mul_nonneg h0 (show (0:Int)≤(p:Int) by omega);omega
  ·have:=Int.mul_le_mul_of_nonneg_right (show elemL p l+1≤(p:Int) ^ l.length by omega) (show (0:Int)≤(p:Int) by omega)
   rw[Int.add_mul,Int.one_mul] at this
   omega
def sumL (a b:List Int):List Int:=(List.range a.length).map fun i=>a[i]?.getD 0+b[i]?.getD 0
def fAdd (q x y:Nat):Int:=elemL (fldP q) (sumL (dgtL (fldP q) (fldZ q).length x) (dgtL (fldP q) (fldZ q).length y))
def convTo (a b:List Int) (n m:Nat):List Int :=
 (List.range m).foldl (fun l t=>l.set (t / n+t % n) (l[t / n+t % n]?.getD 0+a[t / n]?.getD 0*b[t % n]?.getD 0)) (List.replicate (2*n) 0)
def redTo (z l:List Int) (n m:Nat):List Int :=
 (List.range m).foldl (fun l t=>l.set (2*n - 1 - t / n - n+t % n) (l[2*n - 1 - t / n - n+t % n]?.getD 0 - l[2*n - 1 - t / n]?.getD 0*z[t % n]?.getD 0)) l
theorem convTo_succ (a b:List Int) (n m:Nat):convTo a b n (m+1)=(convTo a b n m).set (m / n+m % n) ((convTo a b n m)[m / n+m % n]?.getD 0+a[m / n]?.getD 0*b[m % n]?.getD 0):=by
 unfold convTo;rw[List.range_succ,List.foldl_append];rfl
theorem redTo_succ (z l:List Int) (n m:Nat):redTo z l n (m+1)=(redTo z l n m).set (2*n - 1 - m / n - n+m % n) ((redTo z l n m)[2*n - 1 - m / n - n+m % n]?.getD 0 - (redTo z l n m)[2*n - 1 - m / n]?.getD 0*z[m % n]?.getD 0):=by
 unfold redTo;rw[List.range_succ,List.foldl_append];rfl
theorem convTo_len (a b:List Int) (n m:Nat):(convTo a b n m).length=2*n:=by
 induction m with
 | zero=>simp[convTo]
 | succ m ih=>rw[convTo_succ,List.length_set,ih]
theorem redTo_len (z l:List Int) (n m:Nat):(redTo z l n m).length=l.length:=by
 induction m with
 | zero=>rfl
 | succ m ih=>rw[redTo_succ,List.length_set,ih]
theorem iset_get {cs:List Int} {k i:Nat} {x:Int} (hk:k<cs.length):(cs.set k x)[i]?.getD 0=if i=k then x else cs[i]?.getD 0:=by
 rw[List.getElem?_set]
 by_cases h:k=i
 ·subst h;simp[hk]
 ·rw[if_neg h,if_neg (fun e=>h e.symm)]
theorem convTo_num {a b:List Int} {n:Nat} {B:Int} (hB:0≤B) (ha:∀i:Nat,0≤a[i]?.getD 0∧a[i]?.getD 0≤B) (hb:∀i:Nat,0≤b[i]?.getD 0∧b[i]?.getD 0≤B) (hn:1≤n):∀m:Nat,m≤n*n→∀i:Nat,0≤(convTo a b n m)[i]?.getD 0∧(convTo a b n m)[i]?.getD 0≤(m:Int)*(B*B)
 | 0,_,i=>by
  have:(convTo a b n 0)[i]?.getD 0=0:=by
   simp only[convTo,List.range_zero,List.foldl_nil,List.getElem?_replicate]
   split <;> rfl
  rw[this];simp
 | m+1,hm,i=>by
  have ih:=convTo_num hB ha hb hn m (by omega)
  have hp:0≤a[m / n]?.getD 0*b[m % n]?.getD 0∧a[m / n]?.getD 0*b[m % n]?.getD 0≤B*B:=⟨Int.mul_nonneg (ha _).1 (hb _).1,Int.mul_le_mul (ha _).2 (hb _).2 (hb _).1 hB⟩
  have hBB:=Int.mul_nonneg hB hB
  have e:((m+1:Nat):Int)*(B*B)=(m:Int)*(B*B)+B*B:=by push_cast;rw[Int.add_mul,Int.one_mul]
  have h1:m / n<n:=Nat.div_lt_of_lt_mul (by omega)
  have h2:=Nat.mod_lt m (show 0<n by omega)
  rw[convTo_succ,iset_get (by rw[convTo_len];omega),e]
  split
  ·have:=ih (m / n+m % n);omega
  ·have:=ih i;omega
theorem redTo_num {z l:List Int} {n:Nat} {B:Int} (hl:l.length=2*n) (hz:∀i:Nat,0≤z[i]?.getD 0∧z[i]?.getD 0≤1) (hb:∀i:Nat,-B≤l[i]?.getD 0∧l[i]?.getD 0≤B) (hn:1≤n):∀m:Nat,m≤n*n→∀i:Nat,-(B*2 ^ m)≤(redTo z l n m)[i]?.getD 0∧(redTo z l n m)[i]?.getD 0≤B*2 ^ m
 | 0,_,i=>by
  have:=hb i
  simpa [redTo] using this
 | m+1,hm,i=>by
  have ih:=redTo_num hl hz hb hn m (by omega)
  have e:B*2 ^ (m+1)=2*(B*2 ^ m):=by rw[Int.pow_succ,← Int.mul_assoc,Int.mul_comm]
  obtain ⟨D,hD⟩:∃D,D=B*2 ^ m:=⟨_,rfl⟩
  rw[← hD] at ih e
  have h1:m / n<n:=Nat.div_lt_of_lt_mul (by omega)
  have h2:=Nat.mod_lt m (show 0<n by omega)
  have hD0:0≤D:=by have:=ih 0;omega
  have hp : -D≤(redTo z l n m)[2*n - 1 - m / n]?.getD 0*z[m % n]?.getD 0∧(redTo z l n m)[2*n - 1 - m / n]?.getD 0*z[m % n]?.getD 0≤D:=by
   have hx:=ih (2*n - 1 - m / n)
   have hz0:=hz (m % n)
   rcases (show z[m % n]?.getD 0=0∨z[m % n]?.getD 0=1 by omega) with e0|e0 <;> rw[e0]
   ·rw[Int.mul_zero];omega
   ·rw[Int.mul_one];omega
  have h3:∀q r:Nat,q<n→r<n→2*n - 1 - q - n+r<2*n:=fun q r hq hr=>by omega
  rw[redTo_succ,iset_get (by rw[redTo_len,hl];exact h3 _ _ h1 h2),e]
  split
  ·have:=ih (2*n - 1 - m / n - n+m % n);omega
  ·have:=ih i;omega
def fTimes (q x y:Nat):Int :=
 if fldP q=q then ((x*y % q:Nat):Int)
 else elemL (fldP q) ((redTo (fldZ q) (convTo (dgtL (fldP q) (fldZ q).length x) (dgtL (fldP q) (fldZ q).length y) (fldZ q).length ((fldZ q).length*(fldZ q).length)) (fldZ q).length ((fldZ q).length*(fldZ q).length)).take (fldZ q).length)
theorem fld_cases {q:Nat} (h:q≤16) (hf:fldB q=true):q=2∨q=3∨q=4∨q=5∨q=7∨q=8∨q=9∨q=11∨q=13∨q=16:=by
 have:∀q,q<17→fldB q=true→q=2∨q=3∨q=4∨q=5∨q=7∨q=8∨q=9∨q=11∨q=13∨q=16:=by decide +kernel
 exact this q (by omega) hf
theorem fld_pow {q:Nat} (h:q≤16) (hf:fldB q=true):fldP q ^ (fldZ q).length=q∧2≤fldP q∧fldP q≤16∧1≤(fldZ q).length∧(fldZ q).length≤4:=by
 rcases fld_cases h hf with e|e|e|e|e|e|e|e|e|e <;> subst e <;> decide
theorem fldZ_num (q i:Nat):0≤(fldZ q)[i]?.getD 0∧(fldZ q)[i]?.getD 0≤1:=by
 unfold fldZ
 repeat' split
 all_goals
  rcases i with _|_|_|_|i <;> simp
theorem sumL_len (a b:List Int):(sumL a b).length=a.length:=by simp[sumL]
theorem fAdd_num {q x y:Nat} (h:q≤16) (hf:fldB q=true):0≤fAdd q x y∧fAdd q x y<(q:Int):=by
 obtain ⟨h1,h2,_⟩:=fld_pow h hf
 have:=elemL_num (fldP q) (by omega) (sumL (dgtL (fldP q) (fldZ q).length x) (dgtL (fldP q) (fldZ q).length y))
 rw[sumL_len,dgtL_len,h1] at this
 exact this
theorem fTimes_num {q x y:Nat} (h:q≤16) (hf:fldB q=true):0≤fTimes q x y∧fTimes q x y<(q:Int):=by
 obtain ⟨h1,h2,_⟩:=fld_pow h hf
 have h0:2≤q:=by rcases fld_cases h hf with e|e|e|e|e|e|e|e|e|e <;> omega
 unfold fTimes
 split
 ·have:=Nat.mod_lt (x*y) (show 0<q by omega);omega
 ·have:=elemL_num (fldP q) (by omega) ((redTo (fldZ q) (convTo (dgtL (fldP q) (fldZ q).length x) (dgtL (fldP q) (fldZ q).length y) (fldZ q).length ((fldZ q).length*(fldZ q).length)) (fldZ q).length ((fldZ q).length*(fldZ q).length)).take (fldZ q).length)
  rw[List.length_take,redTo_len,convTo_len,Nat.min_eq_left (by omega),h1] at this
  exact this
end
end Go.Proofs.YtmfpdakaeagdpaaGreat
