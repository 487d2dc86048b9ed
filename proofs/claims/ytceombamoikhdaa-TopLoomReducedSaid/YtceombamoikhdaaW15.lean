/- Texts J37 to J49 of this proof, in one file. -/
import Derived.Test.YtceombamoikhdaaW02
import Derived.Test.YtceombamoikhdaaW08
import Derived.Test.YtceombamoikhdaaW12
import Derived.Test.YtceombamoikhdaaW14
namespace Go.Proofs.Ytceombamoikhdaa
set_option maxRecDepth 100000
set_option maxHeartbeats 16000000
section
open Go Go.RowKit
attribute [local go_sem] over_cell
attribute [local go_sem] Oper.semAt_some
def compV (b:Nat):Value := .func (.func 46) #[] #[.pointer (some ⟨b,0,none⟩),.pointer (some ⟨b+1,0,none⟩),.pointer (some ⟨b+2,0,none⟩)]
theorem comps_c (g0 g1 g2:Value) (fk nk:Nat) (fcaps ncaps:Array Value) (w:World) :
  Calls Try.prog 26 #[.agg #[g0,g1,g2],.func (.func fk) #[] fcaps,.func (.func nk) #[] ncaps] w fun e w'=>e = .returned (compV w.heap.size) ∧
   w'.heap[w.heap.size]?=some (.cells #[g0,g1,g2] 24 (0,0))∧w'.heap[w.heap.size+1]?=some (.cells #[.func (.func fk) #[] fcaps] 57 (0,0))∧w'.heap[w.heap.size+2]?=some (.cells #[.func (.func nk) #[] ncaps] 58 (0,0))∧Below w.heap.size w w':=by
 go_enter Try.func26,Try.ntmps26
 go_wp2_with fail
 have fsz:(((w.alloc (.cells #[g0,g1,g2] 24)).alloc (.cells #[.func (.func fk) #[] fcaps] 57)).alloc (.cells #[.func (.func nk) #[] ncaps] 58)).heap.size=w.heap.size+3:=by simp only[World.size_alloc] <;> omega
 have fB:Below w.heap.size w (((w.alloc (.cells #[g0,g1,g2] 24)).alloc (.cells #[.func (.func fk) #[] fcaps] 57)).alloc (.cells #[.func (.func nk) #[] ncaps] 58)):=(((Below.refl _ _).alloc (Nat.le_refl _) _).alloc (by simp only[World.size_alloc];omega) _).alloc (by simp only[World.size_alloc];omega) _
 have fq0:(((w.alloc (.cells #[g0,g1,g2] 24)).alloc (.cells #[.func (.func fk) #[] fcaps] 57)).alloc (.cells #[.func (.func nk) #[] ncaps] 58)).heap[w.heap.size]?=some (.cells #[g0,g1,g2] 24 (0,0)):=by have h:=World.alloc_heap_new w (.cells #[g0,g1,g2] 24);exact (Below.heap_alloc _ _ _ (by simp only[World.size_alloc];omega)).trans ((Below.heap_alloc _ _ _ (by simp only[World.size_alloc];omega)).trans (h))
 have fq1:(((w.alloc (.cells #[g0,g1,g2] 24)).alloc (.cells #[.func (.func fk) #[] fcaps] 57)).alloc (.cells #[.func (.func nk) #[] ncaps] 58)).heap[w.heap.size+1]?=some (.cells #[.func (.func fk) #[] fcaps] 57 (0,0)):=by have h:=World.alloc_heap_new (w.alloc (.cells #[g0,g1,g2] 24)) (.cells #[.func (.func fk) #[] fcaps] 57);simp only[World.size_alloc] at h;exact (Below.heap_alloc _ _ _ (by simp only[World.size_alloc];omega)).trans (h)
 have fq2:(((w.alloc (.cells #[g0,g1,g2] 24)).alloc (.cells #[.func (.func fk) #[] fcaps] 57)).alloc (.cells #[.func (.func nk) #[] ncaps] 58)).heap[w.heap.size+1+1]?=some (.cells #[.func (.func nk) #[] ncaps] 58 (0,0)):=by have h:=World.alloc_heap_new ((w.alloc (.cells #[g0,g1,g2] 24)).alloc (.cells #[.func (.func fk) #[] fcaps] 57)) (.cells #[.func (.func nk) #[] ncaps] 58);simp only[World.size_alloc] at h;exact h
 generalize (((w.alloc (.cells #[g0,g1,g2] 24)).alloc (.cells #[.func (.func fk) #[] fcaps] 57)).alloc (.cells #[.func (.func nk) #[] ncaps] 58))=W0 at fsz fB fq0 fq1 fq2 ⊢
 go_wp2_with fail
 go_ret
 exact ⟨rfl,fq0,fq1,fq2,fB⟩
theorem KpG.trans {Prot M:Nat→Prop} {A B C:World} (h:KpG Prot M A B) (k:KpG Prot M B C):KpG Prot M A C :=
 ⟨Nat.le_trans h.1 k.1,fun i hi hk=>(k.2 i (Nat.lt_of_lt_of_le hi h.1) hk).trans (h.2 i hi hk)⟩
theorem KpG.putObj {Prot M:Nat→Prop} {W:World} {l n:Nat} (o':Obj) (hI:∀k,Prot k→k<n) (hl:n≤l) (hm:¬M l):KpG Prot M W (W.putObj l o') :=
 ⟨by simp,fun k _ hk=>World.putObj_heap_other (by
  rintro rfl
  rcases hk with hk|hk
  ·have:=hI _ hk;omega
  ·exact hm hk)⟩
theorem GivenG.putObj {m:Nat} {Prot:Nat→Prop} {x:Value × List Int} {M:Nat→Prop} {W:World} {l:Nat} {o o':Obj} (h:GivenG m Prot x M W) (hl:W.heap[l]?=some o) (ho:o.isCells=false):GivenG m Prot x M (W.putObj l o') :=
 ⟨(StaysL.putObj (L:=l) (fun _=>False) o' (Nat.le_refl _) hl ho).owns h.1 (fun _ _ e=>e),h.2.1,fun k hk=>Nat.lt_of_lt_of_le (h.2.2.1 k hk) (grownBy_putObj' W l o').size,h.2.2.2⟩
variable {P:Program}
theorem wp_rangeFunc_MA {α:Type} {g:Operand} {ps:Array Tmp} {assign body:Code} {Q:Exit→Act→World→Prop} {a:Act} {w:World}
  {gf:Nat} {lb:Array Value} (hg:a.eval g = .func (.func gf) #[] lb) (eg:∀args w,(callFunc gf args).run P w = .ok (.enter gf args) w)
  {encs:α→Array Value} {New:α→World→Prop} {Given:α→(Nat→Prop)→World→Prop} {Kp:(Nat→Prop)→World→World→Prop} {S Sp Pre:List α→Prop} {M0:Nat→Prop} (hseq:SeqP P gf lb encs New Given Kp S Sp Pre M0 w)
  (hM0:∀k,M0 k→k<w.heap.size) (hGm:∀x M (W:World),Given x M W→∀k,M k→k<W.heap.size)
  (hGb:∀x M (W:World) l o o',Given x M W→w.heap.size≤l→¬M l→W.heap[l]?=some o→o.isCells=false→Given x M (W.putObj l o'))
  (hKt:∀{M:Nat→Prop} {A B C:World},Kp M A B→Kp M B C→Kp M A C) (hKb:∀(M:Nat→Prop) (W:World) (l:Nat) (o o':Obj),w.heap.size≤l→¬M l→W.heap[l]?=some o→o.isCells=false→Kp M W (W.putObj l o')) (hps:∀x,(encs x).size=ps.size)
  (I:List α→(Nat→Prop)→World→Prop) (Ix:Code→List α→(Nat→Prop)→World→Prop) (hI:StableL w.heap.size I) (hIx:∀c,StableL w.heap.size (Ix c)) (h0:I [] M0 w) (As:α→World→Act→World→Prop) (Gx:α→Prop) (hGx:∀x M (W:World),Given x M W→Gx x)
  (hGbe:∀x M (W W':World),Given x M W→Below W.heap.size W W'→Given x M W') (hKbe:∀(M:Nat→Prop) (W W':World),Below W.heap.size W W'→Kp M W W')
  (hassign:∀(l:Nat) (x:α) (W:World) (K:Act→World→Prop),Gx x→(∀act W',Below W.heap.size W W'→As x W act W'→K act W') →
   assign.wpIn (Fence.wide.inRound l) 0 P (Exit.then K (fun _ _ _=>False)) { tmps:=(ps.zip (encs x)).foldl (fun t (p,v)=>t.setIfInBounds p v) a.tmps,defers:=[] } W)
  (hbody:∀(l:Nat) (pre:List α) (x:α) (M:Nat→Prop) (W0 W1 Wa W:World) (act:Act),I pre M W0→W0.heap.size≤W1.heap.size→StaysL w.heap.size (fun _=>False) W0 W→New x W0→Given x M W→As x W1 act Wa→(∀(b:Nat) (o:Obj),Wa.heap[b]?=some o→o.isCells=true→W.heap[b]?=some o)→(∀b,M b→b<W1.heap.size)→Pre (pre++[x])→body.wpIn (Fence.wide.inRound l) 0 P (ownPostM Kp I Ix (pre++[x]) M W) act W)
  (hdone:∀(D:Nat) (xs:List α) (M:Nat→Prop) (W:World),w.heap.size≤D→S xs→I xs M W→W.heap[D]?=some (.deferred (some []))→Q .normal { a with defers:={ target := .collected D,args:=#[] } :: a.defers } W)
  (hstop:∀(D:Nat) (c:Code) (pre:List α) (M:Nat→Prop) (W:World),w.heap.size≤D→Sp pre→Ix c pre M W→W.heap[D]?=some (.deferred (some []))→c.wp P Q { a with defers:={ target := .collected D,args:=#[] } :: a.defers } W) :
  (Code.rangeFunc g ps assign body).wp P Q a w:=by
 refine (wpIn_wide (n:=0)).1 (wpIn_rangeFunc ?_)
 intro fn hfn
 rw[show Fence.wide.round=none from rfl]
 obtain ⟨rec,hrec⟩:∃rec:LoopState→Option Code→Loop,rec=fun st pe=>{ state:=st,pending:=pe,fn,tmps:=a.tmps,params:=ps,assign,body,defers:=w.heap.size }:=⟨_,rfl⟩
 obtain ⟨W1,hW1⟩:∃W1,(w.alloc (.deferred (some []))).alloc (.loop (rec .ready none))=W1:=⟨_,rfl⟩
 have hL1:W1.heap[w.heap.size+1]?=some (.loop (rec .ready none)):=by
  rw[← hW1];have:=World.alloc_heap_new (w.alloc (.deferred (some []))) (.loop (rec .ready none));rwa [World.size_alloc] at this
 have hK1:W1.heap[w.heap.size]?=some (.deferred (some [])):=by
  rw[← hW1];exact (Below.heap_alloc _ _ _ (by simp)).trans (World.alloc_heap_new w _)
 have hI1:I [] M0 W1:=by
  rw[← hW1]
  exact hI _ M0 M0 _ _ (hI _ M0 M0 _ _ h0 (StaysL.alloc _ _ _ _) (fun k h => .inl h)) (StaysL.alloc _ _ _ _) (fun k h => .inl h)
 have hb1:Below w.heap.size w W1:=by
  rw[← hW1];exact ((Below.refl _ w).alloc (Nat.le_refl _) _).alloc (by simp) _
 have hm1:¬M0 (w.heap.size+1):=fun h=>by have:=hM0 _ h;omega
 have hm2:¬M0 w.heap.size:=fun h=>by have:=hM0 _ h;omega
 refine ⟨w.heap.size+1,[{ target := .collected w.heap.size,args:=#[] }],W1,{ target := .fn (.func gf) lb,args:=#[.func (.yield (w.heap.size+1)) #[] #[]] },W1,gf,
  #[.func (.yield (w.heap.size+1)) #[] #[]]++lb,W1,?_,?_,?_,?_,?_,?_⟩
 ·rw[← hW1,hrec];exact run_enterLoop_outer _ _ _ _ _
 ·simp only[resolve,hg]
  simp[go_sem]
 ·intro f' hf';exact trivial
 ·simp[invoke,go_sem,eg]
 ·intro h;exact absurd h (by simp[Fence.wide])
 ·refine callsIn_wide.2 ?_
  refine (hseq (w.heap.size+1)
   (fun pre M W=>I pre M W∧W.heap[w.heap.size+1]?=some (.loop (rec .ready none))∧W.heap[w.heap.size]?=some (.deferred (some []))∧¬M (w.heap.size+1)∧¬M w.heap.size)
   (fun pre M W=>∃c,Ix c pre M W∧W.heap[w.heap.size+1]?=some (.loop (rec .done (some c)))∧W.heap[w.heap.size]?=some (.deferred (some []))∧¬M (w.heap.size+1)∧¬M w.heap.size)
   W1 hb1 ?_ ?_ ?_ ⟨hI1,hL1,hK1,hm1,hm2⟩).mono ?_
  ·rintro s M M' A B ⟨hi,hl,hk,h1,h2⟩ hs hm
   have hlt:=(Array.getElem?_eq_some_iff.1 hl).1
   refine ⟨hI.m s M M' A B hi hs hm,(hs.block _ hlt h1).trans hl,(hs.block _ (by omega) h2).trans hk,fun e=>(hm _ e).elim h1 (fun h=>by omega),fun e=>(hm _ e).elim h2 (fun h=>by omega)⟩
  ·rintro s M M' A B ⟨c,hi,hl,hk,h1,h2⟩ hs hm
   have hlt:=(Array.getElem?_eq_some_iff.1 hl).1
   refine ⟨c,(hIx c).m s M M' A B hi hs hm,(hs.block _ hlt h1).trans hl,(hs.block _ (by omega) h2).trans hk,fun e=>(hm _ e).elim h1 (fun h=>by omega),fun e=>(hm _ e).elim h2 (fun h=>by omega)⟩
  ·rintro pre x M W0 W ⟨hi,hl0,hk0,h1,h2⟩ hbl hnew hgiv hpre
   have hlt0:w.heap.size+1<W0.heap.size:=(Array.getElem?_eq_some_iff.1 hl0).1
   have hl:=(hbl.block _ hlt0).trans hl0
   have hk:=(hbl.block _ (show w.heap.size<W0.heap.size by omega)).trans hk0
   have hlt:w.heap.size+1<W.heap.size:=(Array.getElem?_eq_some_iff.1 hl).1
   have hy:=run_yield (P:=P) (args:=encs x) hl (by rw[hrec];exact hps x)
   rw[hrec] at hy
   refine ⟨fn,_,assign,body,hy,roundIn_of_wpIn hfn (hassign _ x W _ (hGx _ _ _ hgiv) (fun act Wa hba has=>?_))⟩
   have hla:Wa.heap[w.heap.size+1]?=some (.loop (rec .ready none)):=(hba.block _ hlt).trans hl
   have hlta:w.heap.size+1<Wa.heap.size:=(Array.getElem?_eq_some_iff.1 hla).1
   have hka:Wa.heap[w.heap.size]?=some (.deferred (some [])):=(hba.block _ (by omega)).trans hk
   refine ⟨_,run_beginRound hla (by rw[hrec]),?_⟩
   have hl2:(Wa.putObj (w.heap.size+1) (.loop { rec .ready none with state := .busy })).heap[w.heap.size+1]?=some (.loop { rec .ready none with state := .busy }):=World.putObj_heap_same hlta
   have hk2:(Wa.putObj (w.heap.size+1) (.loop { rec .ready none with state := .busy })).heap[w.heap.size]?=some (.deferred (some [])):=(World.putObj_heap_other (by omega)).trans hka
   have hw2:Kp M W (Wa.putObj (w.heap.size+1) (.loop { rec .ready none with state := .busy })):=hKt (hKbe _ _ _ hba) (hKb _ _ _ _ _ (by omega) h1 hla rfl)
   have hb0a:Below W0.heap.size W0 Wa:=hbl.trans (hba.mono hbl.size)
   have hcl:∀(b:Nat) (o:Obj),Wa.heap[b]?=some o→o.isCells=true→(Wa.putObj (w.heap.size+1) (.loop { rec .ready none with state := .busy })).heap[b]?=some o:=fun b o hb ho=>by
    refine (World.putObj_heap_other (fun e=>?_)).trans hb
    subst e
    rw[hb] at hla
    cases hla
    cases ho
   refine wpIn_mono (hbody _ pre x M W0 W Wa _ act hi hbl.size (((Below.stays hb0a (fun _=>False)).toL _).trans (StaysL.putObj _ _ (by omega) hla rfl)) hnew (hGb _ _ _ _ _ _ (hGbe _ _ _ _ hgiv hba) (by omega) h1 hla rfl) has hcl (hGm _ _ _ hgiv) hpre) ?_
   have fin:∀(jump:Option Code) (W3:World),KeepsOthers (Wa.putObj (w.heap.size+1) (.loop { rec .ready none with state := .busy })) W3 →
     (Instr.endRound (w.heap.size+1) jump).run P W3 = .ok (.bool jump.isNone) (W3.putObj (w.heap.size+1) (.loop (rec (if jump.isNone then .ready else .done) jump))) ∧
     W3.heap[w.heap.size+1]?=some (.loop { rec .ready none with state := .busy }) ∧
     (W3.putObj (w.heap.size+1) (.loop (rec (if jump.isNone then .ready else .done) jump))).heap[w.heap.size+1]?=some (.loop (rec (if jump.isNone then .ready else .done) jump)) ∧
     (W3.putObj (w.heap.size+1) (.loop (rec (if jump.isNone then .ready else .done) jump))).heap[w.heap.size]?=some (.deferred (some [])):=fun jump W3 hk3=>by
    have hl3:=hk3.same _ _ hl2 rfl
    have:=run_endRound (P:=P) jump hl3
    rw[hrec] at this ⊢
    exact ⟨this,by rw[hrec] at hl3;exact hl3,World.putObj_heap_same (Array.getElem?_eq_some_iff.1 hl3).1,(World.putObj_heap_other (by omega)).trans (hk3.same _ _ hk2 rfl)⟩
   rintro e a3 W3 hp
   cases e with
   | normal =>
    obtain ⟨hk3,hkp3,hi3⟩:=hp
    obtain ⟨hr,hl3,hl4,hk4⟩:=fin none W3 hk3
    exact ⟨_,_,hr,.inl ⟨rfl,⟨hI _ M M _ _ hi3 (StaysL.putObj M _ (by omega) hl3 rfl) (fun k h => .inl h),hl4,hk4,h1,h2⟩,hKt (hKt hw2 hkp3) (hKb _ _ _ _ _ (by omega) h1 hl3 rfl)⟩⟩
   | ret =>
    obtain ⟨hk3,hkp3,hi3⟩:=hp
    obtain ⟨hr,hl3,hl4,hk4⟩:=fin (some .ret) W3 hk3
    exact ⟨_,_,hr,.inr ⟨rfl,⟨.ret,hIx _ _ M M _ _ hi3 (StaysL.putObj M _ (by omega) hl3 rfl) (fun k h => .inl h),hl4,hk4,h1,h2⟩,hKt (hKt hw2 hkp3) (hKb _ _ _ _ _ (by omega) h1 hl3 rfl)⟩⟩
   | exit id =>
    obtain ⟨hk3,hkp3,hi3⟩:=hp
    obtain ⟨hr,hl3,hl4,hk4⟩:=fin (some (.exit id)) W3 hk3
    exact ⟨_,_,hr,.inr ⟨rfl,⟨.exit id,hIx _ _ M M _ _ hi3 (StaysL.putObj M _ (by omega) hl3 rfl) (fun k h => .inl h),hl4,hk4,h1,h2⟩,hKt (hKt hw2 hkp3) (hKb _ _ _ _ _ (by omega) h1 hl3 rfl)⟩⟩
   | goto t =>
    obtain ⟨hk3,hkp3,hi3⟩:=hp
    obtain ⟨hr,hl3,hl4,hk4⟩:=fin (some (.goto t)) W3 hk3
    exact ⟨_,_,hr,.inr ⟨rfl,⟨.goto t,hIx _ _ M M _ _ hi3 (StaysL.putObj M _ (by omega) hl3 rfl) (fun k h => .inl h),hl4,hk4,h1,h2⟩,hKt (hKt hw2 hkp3) (hKb _ _ _ _ _ (by omega) h1 hl3 rfl)⟩⟩
   | panic ch=>exact hp.elim
   | outgrown=>exact hp.elim
  ·rintro e W2 ⟨⟨v,rfl⟩,(⟨xs,M,hS,hi,hl,hk,h1,h2⟩|⟨pre,M,hSp,c,hi,hl,hk,h1,h2⟩)⟩
   ·exact ⟨none,_,by have:=run_endLoop (P:=P) hl (by rw[hrec];simp);rw[hrec] at this;exact this,hdone _ xs M _ (Nat.le_refl _) hS (hI _ M M _ _ hi (StaysL.putObj M _ (by omega) hl rfl) (fun k h => .inl h)) ((World.putObj_heap_other (by omega)).trans hk)⟩
   ·exact ⟨some c,_,by have:=run_endLoop (P:=P) hl (by rw[hrec];simp);rw[hrec] at this;exact this,wpIn_wide.2 (hstop _ c pre M _ (Nat.le_refl _) hSp (hIx c _ M M _ _ hi (StaysL.putObj M _ (by omega) hl rfl) (fun k h => .inl h)) ((World.putObj_heap_other (by omega)).trans hk))⟩
theorem wp_range_comp {g:Operand} {p:Tmp} {assign body:Code} {Q:Exit→Act→World→Prop} {a:Act} {w:World} (bP:Nat) (n:Nat) (ar:Option Addr) (m c:Nat) (ps:List Int) (fk:Nat) (fcaps:Array Value) (nk:Nat) (ncaps:Array Value) (Old MN:Nat→Prop) (ok:Nat→Int→List Int→Bool) (Nt:List Int→World→Prop)
  (S:SideP n ps fk fcaps nk ncaps Old MN ok Nt) (hp:Part n ps) (hm:m=n*n)
  (hqP:w.heap[bP]?=some (.cells #[.int .i64 (n:Int),.int .i64 (n:Int),.slice ar m c] 24 (0,0)))
  (hqFr:w.heap[bP+1]?=some (.cells #[.func (.func fk) #[] fcaps] 57 (0,0)))
  (hqNo:w.heap[bP+2]?=some (.cells #[.func (.func nk) #[] ncaps] 58 (0,0)))
  (hic:Sure Old w (fun w=>IC w ar m ps)) (hOl:∀k,Old k→k<w.heap.size) (hMN:∀k,MN k→k<w.heap.size) (hap:∀k,MN k→¬Old k∧k≠bP∧k≠bP+1∧k≠bP+2) (hNt:Nt ps w) (hg:a.eval g=compV bP)
  (I:List (Value × List Int)→(Nat→Prop)→World→Prop) (Ix:Code→List (Value × List Int)→(Nat→Prop)→World→Prop) (hI:StableL w.heap.size I) (hIx:∀c,StableL w.heap.size (Ix c)) (h0:I [] MN w) (As:Value × List Int→World→Act→World→Prop)
  (hassign:∀(l:Nat) (x:Value × List Int) (W:World) (K:Act→World→Prop),(∃av nv cv,x.1 = .slice av nv cv)→(∀act W',Below W.heap.size W W'→As x W act W'→K act W') →
   assign.wpIn (Fence.wide.inRound l) 0 Try.prog (Exit.then K (fun _ _ _=>False)) { tmps:=a.tmps.setIfInBounds p (.agg #[.int .i64 (n:Int),.int .i64 (n:Int),x.1]),defers:=[] } W)
  (hbody:∀(l:Nat) (pre:List (Value × List Int)) (x:Value × List Int) (M:Nat→Prop) (W0 W1 Wa W:World) (act:Act),I pre M W0→W0.heap.size≤W1.heap.size→StaysL w.heap.size (fun _=>False) W0 W→NewC x W0→GivenG m (fun k=>Old k∨k=bP∨k=bP+1∨k=bP+2) x M W→As x W1 act Wa→(∀(b:Nat) (o:Obj),Wa.heap[b]?=some o→o.isCells=true→W.heap[b]?=some o)→(∀b,M b→b<W1.heap.size)→(pre++[x]).map Prod.snd <+: compP n ok m 0 ps→body.wpIn (Fence.wide.inRound l) 0 Try.prog (ownPostM (KpG (fun k=>Old k∨k=bP∨k=bP+1∨k=bP+2)) I Ix (pre++[x]) M W) act W)
  (hdone:∀(D:Nat) (xs:List (Value × List Int)) (M:Nat→Prop) (W:World),w.heap.size≤D→xs.map Prod.snd=compP n ok m 0 ps→I xs M W→W.heap[D]?=some (.deferred (some []))→Q .normal { a with defers:={ target := .collected D,args:=#[] } :: a.defers } W)
  (hstop:∀(D:Nat) (c:Code) (pre:List (Value × List Int)) (M:Nat→Prop) (W:World),w.heap.size≤D→pre.map Prod.snd <+: compP n ok m 0 ps→pre≠[]→Ix c pre M W→W.heap[D]?=some (.deferred (some []))→c.wp Try.prog Q { a with defers:={ target := .collected D,args:=#[] } :: a.defers } W) :
  (Code.rangeFunc g #[p] assign body).wp Try.prog Q a w:=by
 have hprot:∀k,(Old k∨k=bP∨k=bP+1∨k=bP+2)→k<w.heap.size:=by
  rintro k (e|e|e|e)
  ·exact hOl k e
  ·rw[e];exact q_lt hqP
  ·rw[e];exact q_lt hqFr
  ·rw[e];exact q_lt hqNo
 refine wp_rangeFunc_MA (gf:=46) (lb:=#[.pointer (some ⟨bP,0,none⟩),.pointer (some ⟨bP+1,0,none⟩),.pointer (some ⟨bP+2,0,none⟩)]) hg (enters_of Try.func46 (by kernel_rfl) rfl)
  (comp_seq bP (bP+1) (bP+2) n ar m c ps fk fcaps nk ncaps w Old MN ok Nt S hp hm hqP hqFr hqNo hic hOl hMN hap hNt) (fun k hk=>hMN k hk) (fun x M W h=>h.2.2.1) (fun x M W l o o' hG _ _ hl ho=>hG.putObj hl ho) (fun h k=>h.trans k)
  (fun M W l o o' hl hm _ _=>KpG.putObj o' hprot hl hm) (fun _=>rfl) I Ix hI hIx h0 As (fun x=>∃av nv cv,x.1 = .slice av nv cv) (fun x M W h=>(owns_shape h.1).elim fun av h=>h.elim fun cv h=>⟨av,_,cv,h⟩)
  (fun x M W W' h hb=>⟨owns_keep h.1 (fun k _ hl=>hb.block k hl),h.2.1,fun k e=>Nat.lt_of_lt_of_le (h.2.2.1 k e) hb.size,h.2.2.2⟩) (fun M W W' hb=>⟨hb.size,fun k hl _=>hb.block k hl⟩)
  (fun l x W K hx hK=>by
   have e:(#[p].zip (encG n x)).foldl (fun t (p,v)=>t.setIfInBounds p v) a.tmps=a.tmps.setIfInBounds p (.agg #[.int .i64 (n:Int),.int .i64 (n:Int),x.1]):=by simp[encG]
   rw[e];exact hassign l x W K hx hK) hbody hdone (fun D c pre M W hD hS=>hstop D c pre M W hD hS.1 hS.2)
theorem owns_shape3 {w:World} {base:Nat} {e:TypeId} {v:Value} {n:Nat} {xs:List Value} (h:w.ownsRow base e 3 v n xs):∃a c,v = .slice a n c:=by
 rcases h.2 with ⟨h2,h3⟩|⟨g,cap,cur,h2,_⟩
 ·exact ⟨none,0,by rw[h2,h3]⟩
 ·exact ⟨_,_,h2⟩
def takeI (most:Int) (L:List (List Int)):List (List Int):=if most<1 then L else L.take most.toNat
def TakI (n:Nat) (w:World) (L b3 b5:Nat) (most:Int) (pre:List (Value × List Int)) (M:Nat→Prop) (W:World):Prop :=
 OldI w.heap.size w W M∧BoxI W M b3 #[.int .i64 most] 3∧(∃v,BoxI W M b5 #[v] 30∧GridsI n W M L v pre)∧L≤W.heap.size∧(1≤most→(pre.length:Int)<most)
theorem takI_stable {n:Nat} {w:World} {L b3 b5:Nat} {most:Int} {L':Nat} (h1:w.heap.size≤L'):StableL L' (TakI n w L b3 b5 most) :=
 stable_and (stable_old h1 (Nat.le_refl _)) (stable_and (stable_box _ _ _) (stable_and (stable_ex fun v=>stable_and (stable_box _ _ _) (stable_grids n v)) (stable_and stable_size (stable_pure (fun (pre:List (Value × List Int))=>1≤most→(pre.length:Int)<most)))))
def TakX (n:Nat) (w:World) (L b5:Nat) (most:Int) (c:Code) (pre:List (Value × List Int)) (M:Nat→Prop) (W:World):Prop :=
 c = .exit 0∧OldI w.heap.size w W M∧(∃v,BoxI W M b5 #[v] 30∧GridsI n W M L v pre)∧L≤W.heap.size∧(pre.length:Int)=most
theorem takX_stable {n:Nat} {w:World} {L b5:Nat} {most:Int} {L':Nat} (h1:w.heap.size≤L') (c:Code):StableL L' (TakX n w L b5 most c) :=
 stable_and (stable_pure _) (stable_and (stable_old h1 (Nat.le_refl _)) (stable_and (stable_ex fun v=>stable_and (stable_box _ _ _) (stable_grids n v)) (stable_and stable_size (stable_pure _))))
theorem taking_c (bP:Nat) (n:Nat) (ar:Option Addr) (m c:Nat) (ps:List Int) (most:Int) (w:World) (hp:Part n ps) (hm:m=n*n)
  (hqP:w.heap[bP]?=some (.cells #[.int .i64 (n:Int),.int .i64 (n:Int),.slice ar m c] 24 (0,0)))
  (hqFr:w.heap[bP+1]?=some (.cells #[.func (.func 27) #[] #[]] 57 (0,0)))
  (hqNo:w.heap[bP+2]?=some (.cells #[.func (.func 28) #[] #[]] 58 (0,0)))
  (hic:IC w ar m ps) (hbd:(1≤most∧most≤1000000000)∨(compP n okT m 0 ps).length≤1000000000000) :
  Calls Try.prog 25 #[compV bP,.int .i64 most] w fun e w'=>∃v pre,e = .returned v∧GridsI n w' noB w.heap.size v pre∧pre.map Prod.snd=takeI most (compP n okT m 0 ps)∧Below w.heap.size w w':=by
 refine calls_of_marks Try.func25 rfl ?_
 simp only[Try.ntmps25,List.size_toArray,List.length_cons,List.length_nil,Nat.reduceAdd,Nat.reduceSub,Array.replicate_succ,Array.replicate_zero,List.push_toArray,List.append_toArray,List.nil_append,List.cons_append]
 have HP:=Lib.hid hp
 have HM:=Lib.hid hm
 have HIC:=Lib.hid (ic_sure hic)
 have QP:=Lib.hid hqP
 have QFr:=Lib.hid hqFr
 have QNo:=Lib.hid hqNo
 have HBD:=Lib.hid hbd
 clear hp hm hic hqP hqFr hqNo hbd
 unfold compV
 go_wp2_with fail
 have fsz:((w.alloc (.cells #[.int .i64 most] 3)).alloc (.cells #[.slice none 0 0] 30)).heap.size=w.heap.size+2:=by simp only[World.size_alloc] <;> omega
 have fB:Below w.heap.size w ((w.alloc (.cells #[.int .i64 most] 3)).alloc (.cells #[.slice none 0 0] 30)):=((Below.refl _ _).alloc (Nat.le_refl _) _).alloc (by simp only[World.size_alloc];omega) _
 have fq0:((w.alloc (.cells #[.int .i64 most] 3)).alloc (.cells #[.slice none 0 0] 30)).heap[w.heap.size]?=some (.cells #[.int .i64 most] 3 (0,0)):=by have h:=World.alloc_heap_new w (.cells #[.int .i64 most] 3);exact (Below.heap_alloc _ _ _ (by simp only[World.size_alloc];omega)).trans (h)
 have fq1:((w.alloc (.cells #[.int .i64 most] 3)).alloc (.cells #[.slice none 0 0] 30)).heap[w.heap.size+1]?=some (.cells #[.slice none 0 0] 30 (0,0)):=by have h:=World.alloc_heap_new (w.alloc (.cells #[.int .i64 most] 3)) (.cells #[.slice none 0 0] 30);simp only[World.size_alloc] at h;exact h
 generalize ((w.alloc (.cells #[.int .i64 most] 3)).alloc (.cells #[.slice none 0 0] 30))=W0 at fsz fB fq0 fq1 ⊢
 have HSZ:=Lib.hid fsz
 have hsz:w.heap.size+1<W0.heap.size:=by omega
 clear fsz
 obtain ⟨i0,hi,hz0,hz1,hz2⟩:=info_parts infoGrid
 refine wp_range_comp bP n ar m c ps 27 #[] 28 #[] (fun k=>k<w.heap.size) (fun _=>False) okT (fun _ _=>True) (sideT n ps _) HP.out HM.out (keepq fB QP.out) (keepq fB QFr.out) (keepq fB QNo.out) (HIC.out.keep fB.size (fun k e=>fB.block k e)) (fun k e=>Nat.lt_of_lt_of_le e fB.size) (fun k e=>e.elim) (fun k e=>e.elim) trivial rfl
  (TakI n w W0.heap.size w.heap.size (w.heap.size+1) most) (TakX n w W0.heap.size (w.heap.size+1) most) ?hI ?hIx ?h0 ?As ?assign ?body ?done ?stop
 case hI=>exact takI_stable fB.size
 case hIx=>exact takX_stable fB.size
 case h0=>exact ⟨⟨fB,fun k e=>e.elim⟩,⟨fq0,fun e=>e⟩,⟨_,⟨fq1,fun e=>e⟩,GridsI.nil _ _ _ _⟩,Nat.le_refl _,fun h=>by simp;omega⟩
 case As=>exact fun x W act Wa=>act={ tmps:=#[compV bP,.int .i64 most,undef,.pointer (some ⟨w.heap.size,0,none⟩),.slice none 0 0,.pointer (some ⟨w.heap.size+1,0,none⟩),.pointer (some ⟨W.heap.size,0,none⟩),compV bP,.agg #[.int .i64 (n:Int),.int .i64 (n:Int),x.1],undef,undef,undef,undef,undef,undef,undef,undef,undef],defers:=[] }∧Wa.heap[W.heap.size]?=some (.cells #[.int .i64 (n:Int),.int .i64 (n:Int),x.1] 24 (0,0))
 case assign =>
  rintro l ⟨xv,xl⟩ W K ⟨xa,xn,xc,hxv⟩ hK
  dsimp only at hxv
  subst hxv
  gi_wp2
  refine hK _ _ ((Below.refl _ _).alloc (Nat.le_refl _) _) ⟨?_,World.alloc_heap_new _ _⟩
  rfl
 case body =>
  rintro l pre ⟨xv,xl⟩ M W4 W1 Wa W act hI0 hs01 hst hnew hgiv ⟨rfl,hqx⟩ hcl hMlt hpre
  obtain ⟨⟨hBB4,hM⟩,⟨q34,m3⟩,⟨v,⟨q54,m5⟩,hrow4⟩,hsz4,hle⟩:=hI0
  have q3:=hst.at q34 (fun e=>e)
  have q5:=hst.at q54 (fun e=>e)
  have hrow:=hrow4.keep (hst.mono (M':=M) (fun _ e=>e.elim)) (fun _ e => .inl e)
  have hsz2:=Nat.le_trans hsz4 hst.size
  have hfb:=fB.size
  have hBB:Below w.heap.size w W:=hst.below hBB4 hfb (Nat.le_refl _) (fun _ e=>e.elim)
  have hv4:∀k,v.ownBlock=some k→k<W4.heap.size:=fun k e=>(hrow4.1.lt k e).2
  have hqW:=hcl _ _ hqx rfl
  clear hrow4 q34 q54 hqx hcl
  obtain ⟨xa,xc,hxv⟩:=owns_shape hgiv.1
  dsimp only at hxv
  subst hxv
  obtain ⟨av,cv,rfl⟩:=owns_shape3 hrow.1
  dsimp only at hqW hgiv
  obtain ⟨b0,b1,b2,bl⟩:=c3_of hqW
  have c3:=q_cell q3 0
  have c5:=q_cell q5 0
  have f5:=q_free q5 0
  have hv3:¬(Value.slice av pre.length cv).ownBlock=some w.heap.size:=fun e=>by have:=(hrow.1.lt _ e).1;omega
  have hv5:¬(Value.slice av pre.length cv).ownBlock=some (w.heap.size+1):=fun e=>by have:=(hrow.1.lt _ e).1;omega
  have hlenb:pre.length+1≤1000000000001:=by
   rcases HBD.out with h|h
   ·have:=hle h.1;omega
   ·have:=hpre.length_le
    rw[List.length_map,List.length_append,List.length_singleton] at this
    omega
  have hxn:∀k,(Value.slice xa xl.length xc).ownBlock=some k→(W0.heap.size≤k∧¬M k)∧(Value.slice av pre.length cv).ownBlock≠some k:=fun k e=>⟨⟨by have:=hnew k e;omega,(hgiv.2.1 k e).2⟩,fun e2=>by have h1:=hv4 k e2;have h2:=hnew k e;omega⟩
  have hfin:∀w1 v',(W.alloc (.cells #[.int .i64 (n:Int),.int .i64 (n:Int),.slice xa xl.length xc] 24)).grownBy w1 (Value.slice av pre.length cv).ownBlock→w1.ownsRow W0.heap.size 24 3 v' (pre.length+1) (gcells n pre++[.int .i64 (n:Int),.int .i64 (n:Int),.slice xa xl.length xc])→(v'.ownBlock=(Value.slice av pre.length cv).ownBlock∨v'.ownBlock=some (W.alloc (.cells #[.int .i64 (n:Int),.int .i64 (n:Int),.slice xa xl.length xc] 24)).heap.size) →
    KeepsOthers W (w1.setCell ⟨w.heap.size+1,0,none⟩ v')∧KpG (fun k=>k<w.heap.size∨k=bP∨k=bP+1∨k=bP+2) M W (w1.setCell ⟨w.heap.size+1,0,none⟩ v')∧OldI w.heap.size w (w1.setCell ⟨w.heap.size+1,0,none⟩ v') M∧BoxI (w1.setCell ⟨w.heap.size+1,0,none⟩ v') M w.heap.size #[.int .i64 most] 3∧BoxI (w1.setCell ⟨w.heap.size+1,0,none⟩ v') M (w.heap.size+1) #[v'] 30∧GridsI n (w1.setCell ⟨w.heap.size+1,0,none⟩ v') M W0.heap.size v' (pre++[(.slice xa xl.length xc,xl)])∧W0.heap.size≤(w1.setCell ⟨w.heap.size+1,0,none⟩ v').heap.size:=by
   intro w1 v' hgrow hown' hnew'
   have hs2:=grow_stays hgrow
   have q3':=hs2.q q3 hv3
   have q5':=hs2.q q5 hv5
   have hr:=hrow.append hgiv.2.2.1 hgiv.1 hxn hs2 hown' (fun k e=>hnew'.imp (fun e2=>by rw[← e2];exact e) (fun e2=>by rw[e2] at e;cases e;simp))
   have hset:∀k,k<w1.heap.size→k≠w.heap.size+1→(w1.setCell ⟨w.heap.size+1,0,none⟩ v').heap[k]?=w1.heap[k]?:=fun k _ hk=>Below.heap_setCell _ _ _ _ hk
   have hvB:∀k,(Value.slice av pre.length cv).ownBlock=some k→W0.heap.size≤k:=fun k e=>(hrow.1.lt k e).1
   have hbp:=q_lt QNo.out
   have hpr:∀k,(k<w.heap.size∨k=bP∨k=bP+1∨k=bP+2)→k<w.heap.size:=by
    rintro k (e|e|e|e) <;> omega
   refine ⟨?_,?_,⟨?_,hM⟩,⟨q_other q3' (by omega) _,m3⟩,⟨q_set q5' _,m5⟩,hr.setCell (by omega) _,?_⟩
   ·refine ((KeepsOthers.alloc W _).trans (KeepsOthers.of_grownBy hgrow ?_)).trans (KeepsOthers.setCell _ _ _)
    intro j o e ho
    exact owns_cells (hrow.1.alloc _) e ho
   ·refine ⟨?_,fun k hk hb=>(hset k (Nat.lt_of_lt_of_le hk hs2.size) ?_).trans (hs2.block k hk ?_)⟩
    ·have:=hs2.size
     have h2:(w1.setCell ⟨w.heap.size+1,0,none⟩ v').heap.size=w1.heap.size:=by simp[World.setCell]
     omega
    ·rintro rfl
     rcases hb with hb|hb
     ·have:=hpr _ hb;omega
     ·exact m5 hb
    ·intro e
     have:=hvB k e
     rcases hb with hb|hb
     ·have:=hpr _ hb;omega
     ·exact hrow.2.1 k e hb
   ·refine Below.setCell (p:=⟨w.heap.size+1,0,none⟩) ?_ (by show w.heap.size≤w.heap.size+1;omega) _
    exact hBB.trans (hs2.below (by have:=hBB.size;omega) (fun k e=>by have:=hvB k e;omega))
   ·have:=hs2.size
    have h2:(w1.setCell ⟨w.heap.size+1,0,none⟩ v').heap.size=w1.heap.size:=by simp[World.setCell]
    omega
  by_cases hb:(pre.length:Int)+1=most
  ·have hb1:(((pre.length:Int)+1)==most)=true:=by simpa using hb
   have HB:=Lib.hid hb
   have HFIN:=Lib.hid hfin
   clear hb hfin
   gi_wp2_with (gi_at_builtin;refine wpListIn_append_own_at _ rfl _ _ 30 rfl W0.heap.size 24 i0 (.agg #[.int .i64 0,.int .i64 0,.slice none 0 0]) 3 40 Try.underlying30 hi hz0 hz1 hz2 rfl (by decide) _ _ _ rfl (hrow.1.alloc _) ⟨W.heap.size,0,none⟩ 1 1 [.int .i64 (n:Int),.int .i64 (n:Int),.slice xa xl.length xc] rfl rfl (cell_new3 _ _ _ _ _) (by simp[Value.oneCell']) (by unfold maxLen;omega) (by omega) (by simp;omega) ?_;intro v' w1 hown' hgrow _ hnew';obtain ⟨av',cv',rfl⟩:=owns_shape3 hown';have hs2:=grow_stays hgrow;have q3':=hs2.q q3 hv3;have q5':=hs2.q q5 hv5;have c3':=q_cell q3' 0;have c5':=q_cell q5' 0;have f5':=q_free q5' 0)
   obtain ⟨a1,a2,a3,a4,a5,a6,a7⟩:=HFIN.out _ _ hgrow hown' hnew'
   exact ⟨a1,a2,rfl,a3,⟨_,a5,a6⟩,a7,by have:=HB.out;simp;omega⟩
  ·have hb1:(((pre.length:Int)+1)==most)=false:=by simpa using hb
   have HB:=Lib.hid hb
   have HFIN:=Lib.hid hfin
   clear hb hfin
   gi_wp2_with (gi_at_builtin;refine wpListIn_append_own_at _ rfl _ _ 30 rfl W0.heap.size 24 i0 (.agg #[.int .i64 0,.int .i64 0,.slice none 0 0]) 3 40 Try.underlying30 hi hz0 hz1 hz2 rfl (by decide) _ _ _ rfl (hrow.1.alloc _) ⟨W.heap.size,0,none⟩ 1 1 [.int .i64 (n:Int),.int .i64 (n:Int),.slice xa xl.length xc] rfl rfl (cell_new3 _ _ _ _ _) (by simp[Value.oneCell']) (by unfold maxLen;omega) (by omega) (by simp;omega) ?_;intro v' w1 hown' hgrow _ hnew';obtain ⟨av',cv',rfl⟩:=owns_shape3 hown';have hs2:=grow_stays hgrow;have q3':=hs2.q q3 hv3;have q5':=hs2.q q5 hv5;have c3':=q_cell q3' 0;have c5':=q_cell q5' 0;have f5':=q_free q5' 0)
   obtain ⟨a1,a2,a3,a4,a5,a6,a7⟩:=HFIN.out _ _ hgrow hown' hnew'
   exact ⟨a1,a2,a3,a4,⟨_,a5,a6⟩,a7,fun h1=>by have:=HB.out;have:=hle h1;simp;omega⟩
 case done =>
  rintro D xs M W hD hS ⟨⟨hBB,hM⟩,⟨q3,m3⟩,⟨v,⟨q5,m5⟩,hrow⟩,hsz2,hle⟩ hK
  have hrow2:=(hrow.keep (StaysL.putObj (L:=0) M (.deferred none) (Nat.zero_le _) hK rfl) (M':=noB) (fun _ e=>e.elim)).base (L':=w.heap.size) (by omega)
  have c5:=q_cell q5 0
  have HS:=Lib.hid hS
  have HR:=Lib.hid hrow2
  have HLE:=Lib.hid hle
  clear hS hrow hrow2 hle
  go_wp2
  refine marks_one (v:=v) hK rfl (by simp[results,Try.f25,go_sem]) ⟨v,xs,rfl,HR.out,?_,putD_below hBB (by omega)⟩
  rw[← HS.out]
  unfold takeI
  split
  ·rfl
  ·rename_i h1
   have:=HLE.out (by omega)
   rw[List.take_of_length_le (by simp;omega)]
 case stop =>
  rintro D c pre M W hD hS hne ⟨rfl,⟨hBB,hM⟩,⟨v,⟨q5,m5⟩,hrow⟩,hsz2,hle⟩ hK
  have hrow2:=(hrow.keep (StaysL.putObj (L:=0) M (.deferred none) (Nat.zero_le _) hK rfl) (M':=noB) (fun _ e=>e.elim)).base (L':=w.heap.size) (by omega)
  have c5:=q_cell q5 0
  have HS:=Lib.hid hS
  have HR:=Lib.hid hrow2
  have HL:=Lib.hid hle
  clear hS hle hrow hrow2
  go_wp2
  refine marks_one (v:=v) hK rfl (by simp[results,Try.f25,go_sem]) ⟨v,pre,rfl,HR.out,?_,putD_below hBB (by omega)⟩
  have h1:=List.prefix_iff_eq_take.1 HS.out
  rw[List.length_map] at h1
  unfold takeI
  have h3:=HL.out
  have h4:0<pre.length:=List.length_pos_iff.2 hne
  have h2:¬most<1:=by omega
  rw[if_neg h2,h1,show pre.length=most.toNat from by omega]
theorem GridsI.gl {n:Nat} {W:World} {M:Nat→Prop} {L:Nat} {v:Value} {pre:List (Value × List Int)} (h:GridsI n W M L v pre) (hn:pre.length≤17592186044416) (hm:∀x,x∈pre→x.2.length≤17592186044416) :
  ∃a c,v = .slice a pre.length c∧GL W a pre.length n (pre.map Prod.snd):=by
 obtain ⟨a,c,rfl⟩:=owns_shape3 h.1
 refine ⟨a,c,rfl,⟨by rw[List.length_map],hn⟩,fun k hk=>?_⟩
 rcases h.1.2 with ⟨e,e2⟩|⟨g,cap,cur,hv,hg,hh,hnc,hcm,hsz,htk⟩
 ·simp only[Value.slice.injEq] at e
  omega
 ·simp only[Value.slice.injEq] at hv
  obtain ⟨rfl,_,rfl⟩:=hv
  have hglt:g<W.heap.size:=q_lt hh
  have hat:∀j,j<pre.length*3→W.cell? ⟨g,0+j,none⟩=(gcells n pre)[j]?:=fun j hj=>by
   rw[Nat.zero_add,cell_of_row W g j cur _ (0,0) hh,← htk,List.getElem?_take,if_pos hj]
   simp
  obtain ⟨g0,g1,g2⟩:=gcells_at n pre k hk
  have hrow:=(h.2.2 _ (List.getElem_mem hk)).1
  obtain ⟨a9,c9,he9⟩:=owns_shape hrow
  rw[he9] at hrow
  have hic:=IC.of_owns hrow (hm _ (List.getElem_mem hk))
  have hk2:(pre.map Prod.snd)[k]?.getD []=(pre[k]'hk).2:=by rw[List.getElem?_map,List.getElem?_eq_getElem hk];rfl
  rw[hk2]
  exact ⟨g,0,a9,c9,rfl,hglt,(hat _ (by omega)).trans g0,(hat _ (by omega)).trans g1,(hat _ (by omega)).trans (g2.trans (by rw[he9])),hic.1,hic.2⟩
end
section
open Go Go.RowKit
attribute [local go_sem] over_cell
attribute [local go_sem] Oper.semAt_some
def cntN (cs:List Int):Nat→Nat→Nat
 | 0,_=>0
 | f+1,k=>(if 0≤cs[k]?.getD 0 then 0 else 1)+cntN cs f (k+1)
theorem cntN_set {x:Int} {i:Nat}:∀(f k:Nat) (cs:List Int),i<k→cntN (cs.set i x) f k=cntN cs f k:=by
 intro f
 induction f with
 | zero=>exact fun _ _ _=>rfl
 | succ f ih =>
  intro k cs h
  unfold cntN
  rw[ih (k+1) cs (by omega),List.getElem?_set,if_neg (show ¬i=k by omega)]
theorem flatMap_len {f:Nat→List (List Int)} {b:Nat}:∀(l:List Nat),(∀x,x∈l→(f x).length≤b)→(l.flatMap f).length≤l.length*b:=by
 intro l
 induction l with
 | nil=>intro _;simp
 | cons a l ih =>
  intro h
  rw[List.flatMap_cons,List.length_append,List.length_cons,Nat.succ_mul]
  have:=h a (List.mem_cons_self ..)
  have:=ih (fun x hx=>h x (List.mem_cons_of_mem _ hx))
  omega
theorem comp_len {C:Nat} {ok:Nat→Int→List Int→Bool}:∀(f k:Nat) (cs:List Int),(compP C ok f k cs).length≤C ^ cntN cs f k:=by
 intro f
 induction f with
 | zero=>intro k cs;exact Nat.le_refl _
 | succ f ih =>
  intro k cs
  unfold compP cntN
  by_cases h0:0≤cs[k]?.getD 0
  ·rw[if_pos h0,if_pos h0,Nat.zero_add];exact ih _ _
  ·rw[if_neg h0,if_neg h0,Nat.pow_add,Nat.pow_one]
   refine Nat.le_trans (flatMap_len (b:=C ^ cntN cs f (k+1)) _ (fun x _=>?_)) (by rw[List.length_range];exact Nat.le_refl _)
   by_cases h1:(ok k (x:Int) cs&&freeB C cs k (x:Int))=true
   ·rw[if_pos h1,← cntN_set (x:=(x:Int)) f (k+1) cs (Nat.lt_succ_self k)];exact ih _ _
   ·rw[if_neg h1];exact Nat.zero_le _
def frmS (i j:Nat):Int:=if 0<i∧0<j then -1 else (i:Int)+(j:Int)
def frmL (N:Nat):List Int:=madeTo N frmS (N*N)
def redC (N:Nat):List (List Int):=compP N okT (N*N) 0 (frmL N)
theorem frmS_ge (i j:Nat) : -1≤frmS i j:=by unfold frmS;split <;> omega
theorem frmS_lt {i j N:Nat} (hi:i<N) (hj:j<N):frmS i j<(N:Int):=by unfold frmS;split <;> omega
theorem frm_get {N:Nat} (j:Nat):(frmL N)[j]?.getD 0=if j<N*N then frmS (j / N) (j % N) else 0:=by
 unfold frmL madeTo
 rw[List.getElem?_map]
 by_cases h:j<N*N
 ·rw[List.getElem?_range h,if_pos h];rfl
 ·rw[List.getElem?_eq_none (by simpa using h),if_neg h];rfl
theorem frm_once (N:Nat) (h1:1≤N) (h5:N≤5):twiceB N (frmL N)=false:=by
 match N,h1,h5 with
 | 1,_,_=>decide +kernel
 | 2,_,_=>decide +kernel
 | 3,_,_=>decide +kernel
 | 4,_,_=>decide +kernel
 | 5,_,_=>decide +kernel
theorem frm_part (N:Nat) (h1:1≤N) (h5:N≤5):Part N (frmL N) where
 n1:=h1
 n2:=by omega
 len:=by unfold frmL;rw[madeTo_len]
 ge:=fun j=>by
  rw[frm_get];split
  ·exact frmS_ge _ _
  ·decide
 lt:=fun j=>by
  rw[frm_get];split
  ·rename_i h
   obtain ⟨a,b,c⟩:=cell_parts h
   exact frmS_lt a b
  ·omega
 once:=frm_once N h1 h5
theorem frm_cnt (N:Nat) (h1:1≤N) (h5:N≤5):N ^ cntN (frmL N) (N*N) 0≤1000000000000:=by
 match N,h1,h5 with
 | 1,_,_=>decide +kernel
 | 2,_,_=>decide +kernel
 | 3,_,_=>decide +kernel
 | 4,_,_=>decide +kernel
 | 5,_,_=>decide +kernel
theorem red1_c (i j:Nat) (w:World) (hi:i≤256) (hj:j≤256):Calls Try.prog 24 #[.int .i64 (i:Int),.int .i64 (j:Int)] w fun e w'=>e = .returned (.int .i64 (frmS i j))∧Below w.heap.size w w':=by
 by_cases h:0<i
 ·by_cases h2:0<j
  ·have HE:Hid (frmS i j = -1):=if_pos ⟨h,h2⟩
   go_enter Try.func24,Try.ntmps24
   go_wp2
   go_ret
   exact ⟨ret_int HE.out.symm,Below.refl _ _⟩
  ·have HE:Hid (frmS i j=(i:Int)+(j:Int)):=if_neg (fun e=>h2 e.2)
   go_enter Try.func24,Try.ntmps24
   go_wp2
   go_ret
   exact ⟨ret_int HE.out.symm,Below.refl _ _⟩
 ·have HE:Hid (frmS i j=(i:Int)+(j:Int)):=if_neg (fun e=>h e.1)
  go_enter Try.func24,Try.ntmps24
  go_wp2
  go_ret
  exact ⟨ret_int HE.out.symm,Below.refl _ _⟩
theorem enterRed1:∀args w,Sem.run Try.prog (callFunc 24 args) w = .ok (.enter 24 args) w:=by
 intro args w;kernel_rfl
theorem allred_c (N:Nat) (h1:1≤N) (h5:N≤5) (w:World):Calls Try.prog 7 #[.int .i64 (N:Int)] w fun e w'=>∃a c,e = .returned (.tuple #[.slice a (redC N).length c,.int .i64 0])∧GL w' a (redC N).length N (redC N)∧Below w.heap.size w w':=by
 have HP:=Lib.hid (frm_part N h1 h5)
 have hlen:(redC N).length≤1000000000000:=Nat.le_trans (comp_len _ _ _) (frm_cnt N h1 h5)
 have HB:=Lib.hid hlen
 have HO:Hid (ordE (N:Int)=0):=by
  show ordE (N:Int)=0
  unfold ordE whenV
  have:(decide ((1:Int)≤(N:Int))&&decide ((N:Int)≤16))=true:=by simp;omega
  rw[this];rfl
 have HF:Hid (firstL [0,whenV (decide (5<(N:Int))) 20]=0):=by
  show firstL [0,whenV (decide (5<(N:Int))) 20]=0
  rw[decide_eq_false (by omega)];rfl
 have HM:=Lib.hid (fun W=>made_g N (by omega) 24 #[] #[] frmS (frmL N) W rfl enterRed1 (fun i j hi hj W2 _=>red1_c i j W2 (by omega) (by omega)))
 have hfl:(frmL N).length=N*N:=HP.out.len
 have hn2:N*N≤5*5:=Nat.mul_le_mul h5 h5
 have hmem:Hid (∀x,x∈redC N→x.length≤17592186044416):=by
  intro x hx
  have:=(comp_sound (f:=N*N) (k:=0) (by rw[hfl];omega) (fun i hi=>absurd hi (by omega)) (fun y hy=>by
   obtain ⟨i,hi,e⟩:=List.getElem_of_mem hy
   have:=HP.out.lt i
   rw[List.getElem?_eq_getElem hi,Option.getD_some,e] at this
   exact this) (once_iff.1 HP.out.once) hx).1.1
  omega
 have HFL:=Lib.hid hfl
 clear hlen hfl hn2
 go_enter Try.func7,Try.ntmps7
 go_wp2_with (first|(go_at_call 21;refine (corder_c _ _).mono ?_;rw[HO.out];rintro _ w1 ⟨rfl,rfl⟩)|(go_at_call 22;refine (twhen_c _ _ _).mono ?_;rintro _ w3 ⟨rfl,rfl⟩)|(go_at_call 20;refine (tfirst_c _ _ _ _ _ (IC.new2 _ _ _ _)).mono ?_;rw[HF.out];rintro _ w4 ⟨rfl,rfl⟩)|fail)
 go_at_call 23
 refine (HM.out _).mono ?_
 rintro _ w5 ⟨a5,c5,rfl,hown5,hb5⟩
 have hB5:=keep_trans (keep_alloc (Below.refl _ w) (.cells #[.int .i64 0,.int .i64 (whenV (decide (5<(N:Int))) 20)] 27)) hb5
 go_wp2_with fail
 have fsz:(w5.alloc (.cells #[.int .i64 (N:Int),.int .i64 (N:Int),.slice a5 (frmL N).length c5] 24)).heap.size=w5.heap.size+1:=by simp only[World.size_alloc]
 have fB:Below w5.heap.size w5 (w5.alloc (.cells #[.int .i64 (N:Int),.int .i64 (N:Int),.slice a5 (frmL N).length c5] 24)):=(Below.refl _ _).alloc (Nat.le_refl _) _
 have fq0:(w5.alloc (.cells #[.int .i64 (N:Int),.int .i64 (N:Int),.slice a5 (frmL N).length c5] 24)).heap[w5.heap.size]?=some (.cells #[.int .i64 (N:Int),.int .i64 (N:Int),.slice a5 (frmL N).length c5] 24 (0,0)):=by have h:=World.alloc_heap_new w5 (.cells #[.int .i64 (N:Int),.int .i64 (N:Int),.slice a5 (frmL N).length c5] 24);exact h
 generalize (w5.alloc (.cells #[.int .i64 (N:Int),.int .i64 (N:Int),.slice a5 (frmL N).length c5] 24))=W0 at fsz fB fq0 ⊢
 obtain ⟨x0,x1,x2,xl⟩:=c3_of fq0
 have HQ0:=Lib.hid fq0
 have HB0:=Lib.hid (keep_trans hB5 fB)
 have HOW:=Lib.hid (IC.own hown5 rfl (by rw[HFL.out];have:=Nat.mul_le_mul h5 h5;omega))
 clear fsz fq0 hown5
 go_wp2_with (first|(go_at_call 26;refine (comps_c _ _ _ _ _ _ _ _).mono ?_;rintro _ w6 ⟨rfl,hq6,hq61,hq62,hb6⟩)|(go_at_call 25;refine (taking_c _ N a5 (frmL N).length c5 (frmL N) (-1) _ HP.out HFL.out hq6 hq61 hq62 ((HOW.out.1.mono fB).mono hb6) (.inr (by rw[HFL.out];exact HB.out))).mono ?_;rintro _ w7 ⟨v7,pre,rfl,hgi,hpre,hb7⟩;obtain ⟨a7,c7,rfl⟩:=owns_shape3 hgi.1)|fail)
 go_ret2
 have hpre2:pre.map Prod.snd=redC N:=by rw[hpre,HFL.out];rfl
 have hpl:pre.length=(redC N).length:=by rw[← hpre2,List.length_map]
 obtain ⟨a8,c8,he,hgl⟩:=hgi.gl (by rw[hpl];have:=HB.out;omega) (fun x hx=>hmem.out x.2 (by rw[← hpre2];exact List.mem_map.2 ⟨x,hx,rfl⟩))
 simp only[Value.slice.injEq] at he
 obtain ⟨rfl,_,rfl⟩:=he
 rw[hpl,hpre2] at hgl
 exact ⟨a7,c7,by rw[hpl];rfl,hgl,keep_trans (keep_trans HB0.out hb6) hb7⟩
end
section
theorem redC_latin {N:Nat} {X:List Int} (h1:1≤N) (h5:N≤5) (hX:X∈redC N):Latin N X:=by
 have P:=frm_part N h1 h5
 obtain ⟨a,b,c,d⟩:=comp_sound (f:=N*N) (k:=0) (by rw[P.len];omega) (fun i hi=>absurd hi (by omega)) (fun y hy=>by
  obtain ⟨i,hi,e⟩:=List.getElem_of_mem hy
  have:=P.lt i
  rw[List.getElem?_eq_getElem hi,Option.getD_some,e] at this
  exact this) (once_iff.1 P.once) hX
 refine ⟨by rw[a.1,P.len],h1,by omega,fun x hx=>?_,once_iff.2 d⟩
 obtain ⟨i,hi,e⟩:=List.getElem_of_mem hx
 have:=b i
 rw[List.getElem?_eq_getElem hi,Option.getD_some,e] at this
 exact ⟨this,c x hx⟩
theorem redu_mem {n:Nat} {cs:List Int} (L:Latin n cs) (h5:n≤5):reduL (-1) n cs∈redC n:=by
 have P:=frm_part n L.pos h5
 have R:=redu_latin (x := -1) L
 have F:=redu_frame (x := -1) L
 refine comp_all (f:=n*n) (k:=0) (by rw[P.len];omega) (fun i hi=>absurd hi (by omega)) ⟨by rw[R.len,P.len],fun i hi hil=>?_⟩ R.num (once_iff.1 R.once)
 rw[P.len] at hil
 obtain ⟨a1,a2,a3⟩:=cell_parts hil
 rw[frm_get,if_pos hil] at hi ⊢
 unfold frmS at hi ⊢
 by_cases h:0<i / n∧0<i % n
 ·rw[if_pos h] at hi
  exact absurd hi (by decide)
 ·rw[if_neg h]
  by_cases h0:i / n=0
  ·rw[h0,Nat.zero_mul,Nat.zero_add] at a3
   rw[h0,← a3,F.1 i (by omega)];omega
  ·have h2:i % n=0:=Nat.le_zero.1 (Nat.not_lt.1 fun e=>h ⟨Nat.pos_of_ne_zero h0,e⟩)
   rw[h2,Nat.add_zero] at a3
   rw[h2]
   have:=F.2 (i / n) a1
   rw[← a3] at this
   rw[this];omega
theorem fd_get {n:Nat} {cs ds:List Int} {k:Nat} (hk:k<n*n):(fdL n cs ds)[k]?.getD 0=cs[k]?.getD 0+(n:Int)*ds[k]?.getD 0+1:=by
 unfold fdL madeTo
 rw[List.getElem?_map,List.getElem?_range hk]
 obtain ⟨_,_,a3⟩:=cell_parts hk
 show fdS n cs ds (k / n) (k % n)=_
 unfold fdS
 rw[← a3]
theorem two_digits {n x y z t:Int} (hx:0≤x∧x<n) (hz:0≤z∧z<n) (h:x+n*y+1=z+n*t+1):x=z∧y=t:=by
 have e:x+n*y=z+n*t:=by omega
 have h1:(x+n*y) % n=x:=by rw[Int.add_mul_emod_self_left,Int.emod_eq_of_lt hx.1 hx.2]
 have h2:(z+n*t) % n=z:=by rw[Int.add_mul_emod_self_left,Int.emod_eq_of_lt hz.1 hz.2]
 have h3:x=z:=by rw[← h1,e,h2]
 refine ⟨h3,?_⟩
 rw[h3] at e
 have e2:n*y=n*t:=by omega
 exact Int.eq_of_mul_eq_mul_left (by omega) e2
theorem norB_orth {n:Nat} {cs ds:List Int} (S:Sq n cs) (D:Sq n ds):norB (fdL n cs ds)=(meetR cs ds).isNone:=by
 have hlen:=fdL_len n cs ds
 have hr:∀k,k<n*n→1≤(fdL n cs ds)[k]?.getD 0∧(fdL n cs ds)[k]?.getD 0≤((n*n:Nat):Int):=fun k hk=>by
  rw[fd_get hk]
  have h1:=S.num k
  have h2:=D.num k
  have h3:(n:Int)*ds[k]?.getD 0≤(n:Int)*((n:Int) - 1):=Int.mul_le_mul_of_nonneg_left (by omega) (by omega)
  have h4:0≤(n:Int)*ds[k]?.getD 0:=Int.mul_nonneg (by omega) h2.1
  rw[Int.mul_sub,Int.mul_one] at h3
  rw[Int.natCast_mul]
  omega
 have hb:∀k,k<n*n→(badN (fdL n cs ds) k=false↔∀c,c<k→pairEq cs ds c k=false):=fun k hk=>by
  have h1:=hr k hk
  unfold badN
  rw[Bool.or_eq_false_iff,Bool.or_eq_false_iff,decide_eq_false_iff_not,decide_eq_false_iff_not,hlen]
  constructor
  ·rintro ⟨_,_,h⟩ c hc
   rw[Bool.eq_false_iff]
   intro he
   unfold pairEq at he
   rw[Bool.and_eq_true,beq_iff_eq,beq_iff_eq] at he
   unfold hasB at h
   rw[← Bool.not_eq_true,List.contains_iff_mem] at h
   refine h ?_
   have e:(fdL n cs ds)[c]?.getD 0=(fdL n cs ds)[k]?.getD 0:=by rw[fd_get hk,fd_get (by omega),he.1,he.2]
   rw[← e,List.getElem?_eq_getElem (by omega),Option.getD_some]
   exact List.mem_take_iff_getElem.2 ⟨c,by omega,rfl⟩
  ·intro h
   refine ⟨by omega,by omega,?_⟩
   unfold hasB
   rw[Bool.eq_false_iff,Ne,List.contains_iff_mem]
   intro hm
   obtain ⟨c,hc,e⟩:=List.mem_take_iff_getElem.1 hm
   have hck:c<k:=by omega
   have e2:(fdL n cs ds)[c]?.getD 0=(fdL n cs ds)[k]?.getD 0:=by rw[← e,List.getElem?_eq_getElem (by omega),Option.getD_some]
   rw[fd_get hk,fd_get (by omega)] at e2
   have h3:=two_digits (S.num c) (S.num k) e2
   have:=h c hck
   unfold pairEq at this
   rw[h3.1,h3.2] at this
   simp at this
 rw[Bool.eq_iff_iff,Option.isNone_iff_eq_none,meetR_none]
 constructor
 ·intro h c d hcd hd
  rw[S.len] at hd
  unfold norB at h
  rw[List.all_eq_true] at h
  have h1:=h d (List.mem_range.2 (by rw[hlen];exact hd))
  rw[Bool.not_eq_true'] at h1
  exact (hb d hd).1 h1 c hcd
 ·intro h
  exact norB_end fun k hk=>(hb k (by rw[hlen] at hk;exact hk)).2 fun c hc=>h c k hc (by rw[S.len];rw[hlen] at hk;exact hk)
theorem refEr_ok {n:Nat} {cs ds:List Int} (L:Latin n cs) (D:Latin n ds) (h:refEr n cs=0):refuB n cs (refV n cs)=true∧(meetR cs ds).isNone=false:=by
 unfold refEr at h
 unfold refV
 cases hl:leastR n cs with
 | none=>rw[hl] at h;exact absurd h (by decide)
 | some d =>
  unfold leastR at hl
  have h1:=List.find?_some hl
  refine ⟨h1,?_⟩
  have:=refuted_mate L D h1
  rw[← meetR_none] at this
  cases hm:meetR cs ds with
  | none=>exact absurd hm this
  | some _=>rfl
theorem refEr_two (n:Nat) (cs:List Int):refEr n cs=0∨refEr n cs=7:=by
 unfold refEr
 cases leastR n cs with
 | none=>exact .inr rfl
 | some _=>exact .inl rfl
end
end Go.Proofs.Ytceombamoikhdaa
