/- Texts I3 to I6 of this proof, in one file. -/
import Derived.Test.YtaadpihbjhachaaGreatW06
import Derived.Shelf.Abstract
import Derived.Maps.OwnIn
import Derived.Maps.AppendAt
namespace Go.Proofs.YtaadpihbjhachaaGreat
set_option maxRecDepth 100000
set_option maxHeartbeats 16000000
section
open Go Go.RowKit Go.Shelf
attribute [local go_sem] zv
attribute [local go_sem] Oper.semAt_some
theorem calls_of_marks {P:Program} {f:FuncId} {fn:Func} {c:Code} {args:Array Value} {w:World} {R:Ending→World→Prop}
  (hf:P.funcs[f]?=some fn) (hb:fn.body=some c)
  (h:c.wp P (bodyPostM Fence.wide 0 P fn R) { tmps:=args++Array.replicate (fn.ntmps - args.size) undef,defers:=[] } w):Calls P f args w R :=
 (callsIn_wide (n:=0)).1 (callsIn_of_wp_marks hf hb trivial (wpIn_wide.2 h) rfl)
theorem marks_none {P:Program} {fn:Func} {R:Ending→World→Prop} {a:Act} {w:World} {v:Value}
  (hr:(results fn a.tmps).run P w = .ok v w) (hd:a.defers=[]) (hR:R (.returned v) w):bodyPostM Fence.wide 0 P fn R .ret a w:=by
 show LeavesInM Fence.wide 0 P fn a.tmps R a.defers .returning w
 rw[hd]
 exact ⟨v,hr,hR⟩
theorem marks_one {P:Program} {fn:Func} {R:Ending→World→Prop} {a:Act} {w:World} {D:Nat} {v:Value}
  (hK:w.heap[D]?=some (.deferred (some []))) (hd:a.defers=[{ target := .collected D,args:=#[] }])
  (hr:(results fn a.tmps).run P (w.putObj D (.deferred none)) = .ok v (w.putObj D (.deferred none))) (hR:R (.returned v) (w.putObj D (.deferred none))):bodyPostM Fence.wide 0 P fn R .ret a w:=by
 show LeavesInM Fence.wide 0 P fn a.tmps R a.defers .returning w
 rw[hd]
 exact ⟨by simp,.inl ⟨D,_,rfl,run_takeDeferred hK,v,hr,hR⟩⟩
theorem ke {w:World} {D:Nat} (hK:w.heap[D]?=some (.deferred (some []))) (p:Addr):((w.putObj D (.deferred none)).cell? p)=w.cell? p:=by
 simp only[World.cell?]
 by_cases e:p.block=D
 ·rw[e,World.putObj_heap_same (Array.getElem?_eq_some_iff.1 hK).1,hK]
 ·rw[World.putObj_heap_other e]
theorem putD_below {w0 w:World} {D B:Nat} (hb:Below B w0 w) (hD:B≤D):Below B w0 (w.putObj D (.deferred none)) :=
 ⟨hb.os,hb.tape,hb.output,by simpa using hb.size,fun k hk=>(World.putObj_heap_other (by omega)).trans (hb.block k hk)⟩
theorem zm {W W1:World} {b:Nat} {o:Obj} (hb:Below W.heap.size W W1) (h:W.heap[b]?=some o):W1.heap[b]?=some o:=(hb.block b (Array.getElem?_eq_some_iff.1 h).1).trans h
theorem zy {W:World} {b:Nat} {o:Obj} (h:W.heap[b]?=some o):b<W.heap.size:=(Array.getElem?_eq_some_iff.1 h).1
theorem zc {W:World} {b:Nat} {vs:Array Value} {t:TypeId} (h:W.heap[b]?=some (.cells vs t (0,0))) (i:Nat):W.cell? ⟨b,i,none⟩=vs[i]?:=by
 simp[World.cell?,h]
theorem zo {W:World} {b:Nat} {vs:Array Value} {t:TypeId} (h:W.heap[b]?=some (.cells vs t (0,0))) (i:Nat):W.frozen? ⟨b,i,none⟩=false:=by
 simp[World.frozen?,h]
theorem zC {W:World} {b i:Nat} {vs:Array Value} {t:TypeId} (h:W.heap[b]?=some (.cells vs t (0,0))) (u:Value):(W.setCell ⟨b,i,none⟩ u).heap[b]?=some (.cells (vs.setIfInBounds i u) t (0,0)):=by
 have hlt:=zy h
 have h':W.heap[b] = .cells vs t (0,0):=by simpa [Array.getElem?_eq_getElem hlt] using h
 show (W.heap.modify b _)[b]?=_
 rw[Array.getElem?_eq_getElem (by simpa using hlt),Array.getElem_modify_self,h']
 rfl
theorem zU {W:World} {b b' i:Nat} {o:Obj} (h:W.heap[b]?=some o) (hb:b≠b') (u:Value):(W.setCell ⟨b',i,none⟩ u).heap[b]?=some o :=
 (Below.heap_setCell _ _ _ _ hb).trans h
theorem StaysL.mono {L:Nat} {M M':Nat→Prop} {w w':World} (h:StaysL L M w w') (hm:∀k,M k→M' k):StaysL L M' w w' :=
 ⟨h.os,h.tape,h.output,h.size,fun k o ho hk=>h.block k o ho (fun e=>hk (hm k e))⟩
theorem StableL.round {β:Type} {L:Nat} {J:β→(Nat→Prop)→World→Prop} (h:StableL L J) {s:β} {M:Nat→Prop} {W0 W:World} (hj:J s M W0) (hs:StaysL L (fun _=>False) W0 W):J s M W :=
 h s M M W0 W hj (hs.mono (fun _ e=>e.elim)) (fun _ e => .inl e)
theorem ja {β:Type} {L:Nat} {I J:β→(Nat→Prop)→World→Prop} (h:StableL L I) (k:StableL L J):StableL L (fun s M W=>I s M W∧J s M W) :=
 fun s M M' W W' hj hs hm=>⟨h s M M' W W' hj.1 hs hm,k s M M' W W' hj.2 hs hm⟩
theorem qf {β:Type} {L:Nat} (p:β→Prop):StableL L (fun s _ _=>p s):=fun _ _ _ _ _ h _ _=>h
theorem stable_ex {β γ:Type} {L:Nat} {I:γ→β→(Nat→Prop)→World→Prop} (h:∀x,StableL L (I x)):StableL L (fun s M W=>∃x,I x s M W) :=
 fun s M M' W W' ⟨x,hj⟩ hs hm=>⟨x,h x s M M' W W' hj hs hm⟩
def BoxI (W:World) (M:Nat→Prop) (b:Nat) (vs:Array Value) (t:TypeId):Prop:=W.heap[b]?=some (.cells vs t (0,0))∧¬M b
theorem jK {β:Type} {L:Nat} (b:Nat) (f:β→Array Value) (t:TypeId):StableL L (fun s M W=>BoxI W M b (f s) t) :=
 fun _ _ _ _ _ ⟨h,hm⟩ hs hn=>⟨hs.at h hm,fun e=>(hn b e).elim hm (fun h2=>by have:=zy h;omega)⟩
theorem stable_size {β:Type} {L n:Nat}:StableL L (fun (_:β) _ W=>n≤W.heap.size):=fun _ _ _ _ _ h hs _=>Nat.le_trans h hs.size
def OldI (B:Nat) (w0 W:World) (M:Nat→Prop):Prop:=Below B w0 W∧∀k,M k→B≤k
theorem stable_old {β:Type} {L B:Nat} {w0:World} (hL:B≤L) (h0:B≤w0.heap.size):StableL L (fun (_:β) M W=>OldI B w0 W M) :=
 fun _ _ _ _ _ ⟨h,hm⟩ hs hn=>⟨hs.below h hL h0 hm,fun k e=>(hn k e).elim (hm k) (fun h2=>by have:=h.size;omega)⟩
def plC (ls:List (List Int)) (sum:Int) (g:List Int):Cst:=⟨0,none,0,0,ls,sum,none,0,0,g,none,0,0,0⟩
theorem backP_pl (C:Cst):∀R,qc C R=qc (plC C.ls C.sum C.g) R
 | []=>rfl
 | x :: R=>by
  have ih:=backP_pl C R
  unfold qc
  rw[ih]
  rfl
theorem nextP_pl (C:Cst) (P:List Int):jJ C P=jJ (plC C.ls C.sum C.g) P:=by
 unfold jJ
 rw[backP_pl]
 rfl
theorem visit_pl (C:Cst):∀k P,visit C k P=visit (plC C.ls C.sum C.g) k P
 | 0,_=>rfl
 | k+1,P=>by
  simp only[visit]
  rw[nextP_pl]
  cases jJ (plC C.ls C.sum C.g) P with
  | none=>rfl
  | some P' =>
   simp only
   rw[visit_pl C k P']
   rfl
def jk (ls:List (List Int)) (sum:Int) (g:List Int) (P:List Int):List (List Int):=sols (plC ls sum g) P
theorem sols_pl (C:Cst) (P:List Int):sols C P=jk C.ls C.sum C.g P:=by
 unfold jk sols qb
 rw[visit_pl]
 rfl
theorem old_lines {w0 w:World} {a:Option Addr} {n:Nat} {ls:List (List Int)} (h:RC w0 a n ls) (hb:Below w0.heap.size w0 w):Sure (fun k=>k<w0.heap.size) w (fun w'=>∀i,i<n→∃a9 n9 c9,lineV w a i = .slice a9 n9 c9∧IC w' a9 n9 (ls[i]?.getD [])∧n9≤c9):=by
 intro w' hs hk i hi
 have h1:=h.sure w' (Nat.le_trans hb.size hs) (fun k hlt=>(hk k hlt).trans (hb.block k hlt))
 obtain ⟨bl,off,a9,n9,c9,e,hl,hc,hic,hn⟩:=h1.2 i hi
 obtain ⟨bl2,off2,_,_,_,e2,hl2,_⟩:=h.2 i hi
 refine ⟨a9,n9,c9,?_,hic,hn⟩
 rw[lineV_keep h hb i hi]
 rw[e] at e2
 simp only[Option.some.injEq,Addr.mk.injEq,and_true] at e2
 obtain ⟨rfl,rfl⟩:=e2
 subst e
 simp only[lineV]
 have h3:w'.cell? ⟨bl,off+i,none⟩=w0.cell? ⟨bl,off+i,none⟩:=World.cell?_of_block ((hk bl hl2).trans (hb.block bl hl2))
 rw[← h3,hc]
 rfl
theorem mut0 {b bx:Nat} {vf:Value} (h1:bx≠b) (h2:vf.ownBlock≠some bx):¬Mut b vf (.slice none 0 0) bx:=by
 rintro (e|e|e)
 ·exact h1 e
 ·exact h2 e
 ·cases e
theorem mut0_ge {b B:Nat} {vf:Value} (h1:B≤b) (h2:∀k,vf.ownBlock=some k→B≤k):∀k,Mut b vf (.slice none 0 0) k→B≤k:=by
 rintro k (e|e|e)
 ·omega
 ·exact h2 k e
 ·cases e
theorem wp_range_sol {g:Operand} {p:Tmp} {assign body:Code} {Q:Exit→Act→World→Prop} {a:Act} {w:World} {b bx:Nat} {Im:Nat→Prop} {C:Cst} {vf vp:Value} {P:List Int}
  (h:SR w b Im C vf vp P) (he:Even C) (hx:w.cell? ⟨bx,0,none⟩=some (.pointer (some ⟨b,0,none⟩))) (hbx:bx<w.heap.size) (hnb:¬Mut b vf vp bx) (hg:a.eval g=solV bx)
  (I:List (Value × List Int)→(Nat→Prop)→World→Prop) (Ix:Code→List (Value × List Int)→(Nat→Prop)→World→Prop) (hI:StableL w.heap.size I) (hIx:∀c,StableL w.heap.size (Ix c)) (h0:I [] (Mut b vf vp) w) (a₁:Value × List Int→Act)
  (hassign:∀(l:Nat) (x:Value × List Int) (W:World) (K:Act→World→Prop),K (a₁ x) W →
   assign.wpIn (Fence.wide.inRound l) 0 Tryz.prog (Exit.then K (fun _ _ _=>False)) { tmps:=a.tmps.setIfInBounds p x.1,defers:=[] } W)
  (hbody:∀(l:Nat) (pre:List (Value × List Int)) (x:Value × List Int) (M:Nat→Prop) (W0 W:World),I pre M W0→StaysL w.heap.size (fun _=>False) W0 W→NewS x W0→GivenS Im bx w.heap.size x M W→body.wpIn (Fence.wide.inRound l) 0 Tryz.prog (ownPostM (KpS Im bx) I Ix (pre++[x]) M W) (a₁ x) W)
  (hdone:∀(D:Nat) (xs:List (Value × List Int)) (M:Nat→Prop) (W:World),w.heap.size≤D→xs.map Prod.snd=jk C.ls C.sum C.g P→I xs M W→W.heap[D]?=some (.deferred (some []))→Q .normal { a with defers:={ target := .collected D,args:=#[] } :: a.defers } W)
  (hstop:∀(D:Nat) (c:Code) (pre:List (Value × List Int)) (M:Nat→Prop) (W:World),w.heap.size≤D→pre.map Prod.snd <+: jk C.ls C.sum C.g P→pre≠[]→Ix c pre M W→W.heap[D]?=some (.deferred (some []))→c.wp Tryz.prog Q { a with defers:={ target := .collected D,args:=#[] } :: a.defers } W) :
  (Code.rangeFunc g #[p] assign body).wp Tryz.prog Q a w:=by
 refine wp_rangeFunc_M (gf:=193) (lb:=#[.pointer (some ⟨bx,0,none⟩)]) hg (enters_of Tryz.func193 (by kernel_rfl) rfl)
  (sol_seq b bx w.heap.size Im C vf vp P w h he hx hbx hnb (Nat.le_refl _)) (fun k hk=>h.mutLt hk) (fun x M W l o o' hG _ _ hl ho=>hG.putObj hl ho) (fun h k=>h.trans k)
  (fun M W l o o' hl hm _ _=>KpS.putObj o' h.imLt hbx hl hm) (fun _=>rfl) I Ix hI hIx h0 a₁ (fun l x W K hK=>by
   have e:(#[p].zip (encS x)).foldl (fun t (p,v)=>t.setIfInBounds p v) a.tmps=a.tmps.setIfInBounds p x.1:=by simp[encS]
   rw[e];exact hassign l x W K hK) hbody (fun D xs M W hD hS=>hdone D xs M W hD (by rw[hS,sols_pl])) (fun D c pre M W hD hS=>hstop D c pre M W hD (by rw[← sols_pl];exact hS.1) hS.2)
end
section
open Go Go.RowKit
attribute [local go_sem] zv
attribute [local go_sem] Oper.semAt_some
def countE (cells:Int) (ls:List (List Int)) (sum:Int) (g:List Int):Int :=
 if (zH cells ls sum g != 0)=true then zH cells ls sum g else if 999999999<(jk ls sum g []).length then 5 else 0
def countN (cells:Int) (ls:List (List Int)) (sum:Int) (g:List Int):Int :=
 if (zH cells ls sum g != 0)=true then 0 else if 999999999<(jk ls sum g []).length then 0 else ((jk ls sum g []).length:Int)
def CntI (w:World) (b1 b2 b3:Nat) (pre:List (Value × List Int)) (M:Nat→Prop) (W:World):Prop :=
 OldI w.heap.size w W M∧BoxI W M b1 #[.int .i64 0] 3∧BoxI W M b2 #[.int .i64 0] 34∧BoxI W M b3 #[.int .i64 pre.length] 3∧(pre.length:Int)≤999999999
theorem cntI_stable {w:World} {L b1 b2 b3:Nat} (hL:w.heap.size≤L):StableL L (CntI w b1 b2 b3) :=
 ja (stable_old hL (Nat.le_refl _)) (ja (jK _ _ _) (ja (jK _ _ _) (ja (jK _ (fun (pre:List (Value × List Int))=>#[.int .i64 pre.length]) _) (qf _))))
def CntX (w:World) (b1 b2:Nat) (c:Code) (pre:List (Value × List Int)) (M:Nat→Prop) (W:World):Prop :=
 c = .ret∧OldI w.heap.size w W M∧BoxI W M b1 #[.int .i64 0] 3∧BoxI W M b2 #[.int .i64 5] 34∧(999999999:Int)<pre.length
theorem cntX_stable {w:World} {L b1 b2:Nat} (hL:w.heap.size≤L) (c:Code):StableL L (CntX w b1 b2 c) :=
 ja (qf _) (ja (stable_old hL (Nat.le_refl _)) (ja (jK _ _ _) (ja (jK _ _ _) (qf _))))
theorem count_c (a:Option Addr) (n c:Nat) (ls:List (List Int)) (cells sum:Int) (a':Option Addr) (n' c':Nat) (g:List Int) (w:World) (h:RC w a n ls) (hcap:n≤c) (h':IC w a' n' g) (hcap':n'≤c') :
  Calls Tryz.prog 14 #[.agg #[.int .i64 cells,.slice a n c,.int .i64 sum,.slice a' n' c']] w fun e w'=>e = .returned (.tuple #[.int .i64 (countN cells ls sum g),.int .i64 (countE cells ls sum g)])∧Below w.heap.size w w':=by
 have hE:Hid (countE cells ls sum g=if (zH cells ls sum g != 0)=true then zH cells ls sum g else if 999999999<(jk ls sum g []).length then 5 else 0):=rfl
 have hN:Hid (countN cells ls sum g=if (zH cells ls sum g != 0)=true then 0 else if 999999999<(jk ls sum g []).length then 0 else ((jk ls sum g []).length:Int)):=rfl
 refine calls_of_marks Tryz.func14 rfl ?_
 simp only[Tryz.ntmps14,List.size_toArray,List.length_cons,List.length_nil,Nat.reduceAdd,Nat.reduceSub,Array.replicate_succ,Array.replicate_zero,List.push_toArray,List.append_toArray,List.nil_append,List.cons_append]
 go_wp2_with fail
 have fsz:(((w.alloc (.cells #[.int .i64 cells,.slice a n c,.int .i64 sum,.slice a' n' c'] 27)).alloc (.cells #[.int .i64 0] 3)).alloc (.cells #[.int .i64 0] 34)).heap.size=w.heap.size+3:=by simp only[World.size_alloc] <;> omega
 have fB:Below w.heap.size w (((w.alloc (.cells #[.int .i64 cells,.slice a n c,.int .i64 sum,.slice a' n' c'] 27)).alloc (.cells #[.int .i64 0] 3)).alloc (.cells #[.int .i64 0] 34)):=(((Below.refl _ _).alloc (Nat.le_refl _) _).alloc (by simp only[World.size_alloc];omega) _).alloc (by simp only[World.size_alloc];omega) _
 have fq0:(((w.alloc (.cells #[.int .i64 cells,.slice a n c,.int .i64 sum,.slice a' n' c'] 27)).alloc (.cells #[.int .i64 0] 3)).alloc (.cells #[.int .i64 0] 34)).heap[w.heap.size]?=some (.cells #[.int .i64 cells,.slice a n c,.int .i64 sum,.slice a' n' c'] 27 (0,0)):=by have h:=World.alloc_heap_new w (.cells #[.int .i64 cells,.slice a n c,.int .i64 sum,.slice a' n' c'] 27);exact (Below.heap_alloc _ _ _ (by simp only[World.size_alloc];omega)).trans ((Below.heap_alloc _ _ _ (by simp only[World.size_alloc];omega)).trans (h))
 have fq1:(((w.alloc (.cells #[.int .i64 cells,.slice a n c,.int .i64 sum,.slice a' n' c'] 27)).alloc (.cells #[.int .i64 0] 3)).alloc (.cells #[.int .i64 0] 34)).heap[w.heap.size+1]?=some (.cells #[.int .i64 0] 3 (0,0)):=by have h:=World.alloc_heap_new (w.alloc (.cells #[.int .i64 cells,.slice a n c,.int .i64 sum,.slice a' n' c'] 27)) (.cells #[.int .i64 0] 3);simp only[World.size_alloc] at h;exact (Below.heap_alloc _ _ _ (by simp only[World.size_alloc];omega)).trans (h)
 have fq2:(((w.alloc (.cells #[.int .i64 cells,.slice a n c,.int .i64 sum,.slice a' n' c'] 27)).alloc (.cells #[.int .i64 0] 3)).alloc (.cells #[.int .i64 0] 34)).heap[w.heap.size+1+1]?=some (.cells #[.int .i64 0] 34 (0,0)):=by have h:=World.alloc_heap_new ((w.alloc (.cells #[.int .i64 cells,.slice a n c,.int .i64 sum,.slice a' n' c'] 27)).alloc (.cells #[.int .i64 0] 3)) (.cells #[.int .i64 0] 34);simp only[World.size_alloc] at h;exact h
 generalize (((w.alloc (.cells #[.int .i64 cells,.slice a n c,.int .i64 sum,.slice a' n' c'] 27)).alloc (.cells #[.int .i64 0] 3)).alloc (.cells #[.int .i64 0] 34))=W0 at fsz fB fq0 fq1 fq2 ⊢
 have H:=za h
 have H':=za h'
 have HS:=za (small_c a n c ls cells sum a' n' c' g W0 (h.mono fB) hcap (h'.mono fB) hcap')
 clear h h'
 have HSZ:=za fsz
 have fsz':w.heap.size+2<W0.heap.size:=by omega
 clear fsz
 by_cases he:(zH cells ls sum g != 0)=true
 ·rw[if_pos he] at hE hN
  have hne:¬zH cells ls sum g=0:=by simpa using he
  go_wp2_with (go_at_call 63;refine HS.out.mono ?_;rintro _ w1 ⟨rfl,hb1⟩;have c1:=zc (zm hb1 fq1) 0;have c2:=zc (zm hb1 fq2) 0;have f1:=zo (zm hb1 fq1) 0;have f2:=zo (zm hb1 fq2) 0)
  have g1:=zU (zC (i:=0) (zm hb1 fq1) (.int .i64 0)) (b':=w.heap.size+1+1) (i:=0) (by omega) (.int .i64 (zH cells ls sum g))
  have g2:=zC (i:=0) (zU (zm hb1 fq2) (b':=w.heap.size+1) (i:=0) (by omega) (.int .i64 0)) (.int .i64 (zH cells ls sum g))
  have d1:=zc g1 0
  have d2:=zc g2 0
  refine marks_none (v := .tuple #[.int .i64 0,.int .i64 (zH cells ls sum g)]) ?_ rfl ⟨?_,?_⟩
  ·simp[results,Tryz.f14,go_sem,d1,d2]
  ·rw[hE.out,hN.out]
  ·exact (((fB.trans (hb1.mono (by omega))).setCell (p:=⟨w.heap.size+1,0,none⟩) (by simp) _).setCell (p:=⟨w.heap.size+1+1,0,none⟩) (by show w.heap.size≤w.heap.size+1+1;omega) _)
 ·have he0:zH cells ls sum g=0:=by simpa using he
  rw[if_neg he] at hE hN
  have hte:zx cells ls sum g=0:=by
   unfold zH at he0
   by_cases h1:(zx cells ls sum g != 0)=true
   ·rw[if_pos h1] at he0;exact he0
   ·simpa using h1
  have G:=za (qg hte)
  rw[he0] at HS
  clear he he0 hte
  have hl':=H'.out.len
  have hl:=H.out.len
  have hm':n'≤256:=by have:=G.out.len;have:=G.out.cells2;omega
  have hn1:n≤1000000:=by have:=G.out.lines;omega
  go_wp2_with (go_at_call 63;refine HS.out.mono ?_;rintro _ w1 ⟨rfl,hb1⟩;have hA:=(Below.refl w1.heap.size w1).alloc (Nat.le_refl _) (.cells #[.int .i64 0] 3);have x0:=zc (zm hA (zm hb1 fq0)) 0;have x1:=zc (zm hA (zm hb1 fq0)) 1;have x2:=zc (zm hA (zm hb1 fq0)) 2;have x3:=zc (zm hA (zm hb1 fq0)) 3)
  have hz1:=hb1.size
  have g0:=zm hA (zm hb1 fq0)
  have g1:=zm hA (zm hb1 fq1)
  have g2:=zm hA (zm hb1 fq2)
  have g3:(w1.alloc (.cells #[.int .i64 0] 3)).heap[w1.heap.size]?=some (.cells #[.int .i64 0] 3 (0,0)):=World.alloc_heap_new _ _
  have hBW:Below w.heap.size w (w1.alloc (.cells #[.int .i64 0] 3)):=(fB.trans (hb1.mono (by omega))).alloc (by omega) _
  have hbn:w1.heap.size<(w1.alloc (.cells #[.int .i64 0] 3)).heap.size:=zy g3
  clear x0 x1 x2 x3 hA
  generalize (w1.alloc (.cells #[.int .i64 0] 3))=W2 at g0 g1 g2 g3 hBW hbn ⊢
  have hOlt:∀k,k<w.heap.size→k<W2.heap.size:=fun k hk=>by have:=hBW.size;omega
  refine (all_c a n c ls cells sum a' n' c' g W2 (H.out.mono hBW) hcap hn1 (H'.out.mono hBW) hm' (fun k hk=>by have:=G.out.num k (by omega);have:=G.out.cells2;omega) (fun l hl=>by have h1:=G.out.lineLen hl;have h2:=G.out.len;exact ⟨h1.1,fun x hx=>by have:=h1.2 x hx;omega⟩) (fun k=>k<w.heap.size) hOlt (old_lines H.out hBW)).mono ?_
  rintro _ w3 ⟨bx,b,Im,ao,co,al,cl,vf,rfl,hbx1,hbx2,hbx3,hbx4,hbx5,hbx6,hsr,hb3,hb4,hb5,hb6⟩
  have p1:=zm hb3 g1
  have p2:=zm hb3 g2
  have p3:=zm hb3 g3
  go_wp2_with fail
  have hnb:¬Mut b vf (.slice none 0 0) bx:=by
   rintro (e|e|e)
   ·exact hbx3 e
   ·exact hbx4 e
   ·cases e
  have hge:∀k,Mut b vf (.slice none 0 0) k→W2.heap.size≤k:=by
   rintro k (e|e|e)
   ·omega
   ·exact hb5 k e
   ·cases e
  have hgi:∀k,KbS Im bx (Mut b vf (.slice none 0 0)) k→k<w.heap.size∨W2.heap.size≤k:=by
   rintro k (e|e|e)
   ·exact hb6 k e
   ·exact .inr (hge k e)
   ·omega
  have hev:Even ⟨cells,a,n,c,ls,sum,a',n',c',g,ao,co,al,cl⟩:=G.out.even
  have h3:W2.heap.size≤w3.heap.size:=hb3.size
  refine wp_range_sol hsr hev hbx6 hbx2 hnb rfl
   (CntI w (w.heap.size+1) (w.heap.size+1+1) w1.heap.size) (CntX w (w.heap.size+1) (w.heap.size+1+1)) ?hI ?hIx ?h0 ?act ?assign ?body ?done ?stop
  case hI=>exact cntI_stable (by omega)
  case hIx=>exact cntX_stable (by omega)
  case h0 =>
   have hBW3:=hBW.trans (hb3.mono hBW.size)
   exact ⟨⟨hBW3,fun k hk=>by have:=hge k hk;have:=hBW.size;omega⟩,⟨p1,fun e=>by have:=hge _ e;omega⟩,⟨p2,fun e=>by have:=hge _ e;omega⟩,⟨p3,fun e=>by have:=hge _ e;omega⟩,by simp⟩
  case assign =>
   intro l x W K hK
   gi_wp2
   exact hK
  have hle1:w.heap.size≤w1.heap.size:=by omega
  case body =>
   rintro l pre x M W4 W hI0 hst _ _
   obtain ⟨⟨hB,hM⟩,⟨q1,m1⟩,⟨q2,m2⟩,⟨q3,m3⟩,hle⟩:=(cntI_stable (L:=w3.heap.size) (by omega)).round hI0 hst
   have c1:=zc q1 0
   have c2:=zc q2 0
   have c3:=zc q3 0
   have f1:=zo q1 0
   have f2:=zo q2 0
   have f3:=zo q3 0
   by_cases hgt:(999999999:Int)<(pre.length:Int)+1
   ·gi_wp2
    refine ⟨((KeepsOthers.setCell _ _ _).trans (KeepsOthers.setCell _ _ _)).trans (KeepsOthers.setCell _ _ _),((KpS.setCell _ ?_).trans (KpS.setCell _ ?_)).trans (KpS.setCell _ ?_),rfl,⟨((hB.setCell (p:=⟨w1.heap.size,0,none⟩) hle1 _).setCell (p:=⟨w.heap.size+1,0,none⟩) (by simp) _).setCell (p:=⟨w.heap.size+1+1,0,none⟩) (by show w.heap.size≤w.heap.size+1+1;omega) _,hM⟩,⟨?_,m1⟩,⟨?_,m2⟩,by simp;omega⟩
    ·rintro (e|e|e)
     ·rcases hb6 _ e with e2|e2 <;> omega
     ·exact m3 e
     ·omega
    ·rintro (e|e|e)
     ·rcases hb6 _ e with e2|e2 <;> omega
     ·exact m1 e
     ·omega
    ·rintro (e|e|e)
     ·rcases hb6 _ e with e2|e2 <;> omega
     ·exact m2 e
     ·omega
    ·exact zU (zC (zU q1 (by omega) _) _) (by omega) _
    ·exact zC (zU (zU q2 (by omega) _) (by omega) _) _
   ·gi_wp2
    refine ⟨KeepsOthers.setCell _ _ _,KpS.setCell _ ?_,⟨hB.setCell (p:=⟨w1.heap.size,0,none⟩) hle1 _,hM⟩,⟨zU q1 (by omega) _,m1⟩,⟨zU q2 (by omega) _,m2⟩,⟨?_,m3⟩,by simp;omega⟩
    ·rintro (e|e|e)
     ·rcases hb6 _ e with e2|e2 <;> omega
     ·exact m3 e
     ·omega
    ·have:=zC (i:=0) q3 (.int .i64 ((pre.length:Int)+1))
     simpa using this
  case done =>
   rintro D xs M W hD hS ⟨⟨hB,hM⟩,⟨q1,m1⟩,⟨q2,m2⟩,⟨q3,m3⟩,hle⟩ hK
   have c1:=zc q1 0
   have c2:=zc q2 0
   have c3:=zc q3 0
   have f1:=zo q1 0
   have f2:=zo q2 0
   have HL:Hid (jk ls sum g []=xs.map Prod.snd):=hS.symm
   clear hS
   go_wp2
   have r1:=zU (b':=w.heap.size+1+1) (i:=0) (zC (i:=0) q1 (.int .i64 xs.length)) (by omega) (.int .i64 0)
   have r2:=zC (i:=0) (zU (b':=w.heap.size+1) (i:=0) q2 (by omega) (.int .i64 xs.length)) (.int .i64 0)
   have hK2:=((KeepsOthers.setCell W ⟨w.heap.size+1,0,none⟩ (.int .i64 xs.length)).trans (KeepsOthers.setCell _ ⟨w.heap.size+1+1,0,none⟩ (.int .i64 0))).same D _ hK rfl
   have d1:=(ke hK2 ⟨w.heap.size+1,0,none⟩).trans (zc r1 0)
   have d2:=(ke hK2 ⟨w.heap.size+1+1,0,none⟩).trans (zc r2 0)
   have hlen:(jk ls sum g []).length=xs.length:=by rw[HL.out,List.length_map]
   refine marks_one (v := .tuple #[.int .i64 xs.length,.int .i64 0]) hK2 rfl ?_ ⟨?_,?_⟩
   ·simp[results,Tryz.f14,go_sem,d1,d2]
   ·rw[hE.out,hN.out,hlen,if_neg (by omega),if_neg (by omega)]
   ·exact putD_below ((hB.setCell (p:=⟨w.heap.size+1,0,none⟩) (by simp) _).setCell (p:=⟨w.heap.size+1+1,0,none⟩) (by show w.heap.size≤w.heap.size+1+1;omega) _) (by omega)
  case stop =>
   rintro D c pre M W hD hS _ ⟨rfl,⟨hB,hM⟩,⟨q1,m1⟩,⟨q2,m2⟩,hgt⟩ hK
   go_wp2
   have d1:=(ke hK ⟨w.heap.size+1,0,none⟩).trans (zc q1 0)
   have d2:=(ke hK ⟨w.heap.size+1+1,0,none⟩).trans (zc q2 0)
   have hlen:pre.length≤(jk ls sum g []).length:=by have:=hS.length_le;simpa using this
   refine marks_one (v := .tuple #[.int .i64 0,.int .i64 5]) hK rfl ?_ ⟨?_,?_⟩
   ·simp[results,Tryz.f14,go_sem,d1,d2]
   ·rw[hE.out,hN.out,if_pos (by omega),if_pos (by omega)]
   ·exact putD_below hB (by omega)
end
section
open Go Go.RowKit Go.Shelf
attribute [local go_sem] zv
attribute [local go_sem] Oper.semAt_some
def RowsI (W:World) (M:Nat→Prop) (L:Nat) (v:Value) (pre:List (Value × List Int)):Prop :=
 W.ownsRow L 25 1 v pre.length (pre.map Prod.fst)∧(∀k,v.ownBlock=some k→¬M k) ∧
  ∀x,x∈pre→W.ownsRow L 3 1 x.1 x.2.length (x.2.map (Value.int .i64))∧∀k,x.1.ownBlock=some k→¬M k∧v.ownBlock≠some k
theorem RowsI.nil (W:World) (M:Nat→Prop) (L:Nat):RowsI W M L (.slice none 0 0) [] :=
 ⟨World.ownsRow_nil W L _ 1,fun _ e=>(by cases e),fun _ e=>(by cases e)⟩
theorem RowsI.keep {W W':World} {M M':Nat→Prop} {L L':Nat} {v:Value} {pre:List (Value × List Int)} (h:RowsI W M L v pre) (hs:StaysL L' M W W') (hn:∀k,M' k→M k∨W.heap.size≤k):RowsI W' M' L v pre :=
 ⟨hs.owns h.1 h.2.1,fun k e hm=>(hn k hm).elim (h.2.1 k e) (fun h2=>by have:=(h.1.lt k e).2;omega),
  fun x hx=>⟨hs.owns (h.2.2 x hx).1 (fun k e=>((h.2.2 x hx).2 k e).1),fun k e=>⟨fun hm=>(hn k hm).elim ((h.2.2 x hx).2 k e).1 (fun h2=>by have:=((h.2.2 x hx).1.lt k e).2;omega),((h.2.2 x hx).2 k e).2⟩⟩⟩
theorem stable_rows {L L':Nat} (v:Value):StableL L' (fun (pre:List (Value × List Int)) M W=>RowsI W M L v pre) :=
 fun _ _ _ _ _ h hs hn=>h.keep hs hn
theorem RowsI.setCell {W:World} {M:Nat→Prop} {L:Nat} {v:Value} {pre:List (Value × List Int)} (h:RowsI W M L v pre) {b i:Nat} (hb:b<L) (u:Value):RowsI (W.setCell ⟨b,i,none⟩ u) M L v pre :=
 ⟨ownsRow_setCell_other h.1 (a:=⟨b,i,none⟩) (fun e=>by have:=(h.1.lt b e).1;omega) u,h.2.1,
  fun x hx=>⟨ownsRow_setCell_other (h.2.2 x hx).1 (a:=⟨b,i,none⟩) (fun e=>by have:=((h.2.2 x hx).1.lt b e).1;omega) u,(h.2.2 x hx).2⟩⟩
theorem RowsI.append {W W2:World} {M:Nat→Prop} {L:Nat} {v v':Value} {pre:List (Value × List Int)} {x:Value × List Int} (h:RowsI W M L v pre) (hM:∀k,M k→k<W.heap.size)
  (hx:W.ownsRow L 3 1 x.1 x.2.length (x.2.map (Value.int .i64))) (hxm:∀k,x.1.ownBlock=some k→¬M k∧v.ownBlock≠some k)
  (hs:Stays (fun k=>v.ownBlock=some k) W W2) (hown:W2.ownsRow L 25 1 v' (pre.length+1) (pre.map Prod.fst++[x.1])) (hnew:∀k,v'.ownBlock=some k→v.ownBlock=some k∨W.heap.size≤k):RowsI W2 M L v' (pre++[x]):=by
 have hold:∀y,y∈pre++[x]→W.ownsRow L 3 1 y.1 y.2.length (y.2.map (Value.int .i64))∧∀k,y.1.ownBlock=some k→¬M k∧v.ownBlock≠some k:=by
  intro y hy
  rcases List.mem_append.1 hy with hy|hy
  ·exact h.2.2 y hy
  ·rw[List.mem_singleton.1 hy];exact ⟨hx,hxm⟩
 refine ⟨by rw[List.length_append,List.map_append];exact hown,fun k e hm=>?_,fun y hy=>⟨zw (hold y hy).1 (fun k e hlt=>hs.block k hlt ((hold y hy).2 k e).2),fun k e=>⟨((hold y hy).2 k e).1,fun e2=>?_⟩⟩⟩
 ·rcases hnew k e with e2|e2
  ·exact h.2.1 k e2 hm
  ·have:=hM _ hm;omega
 ·rcases hnew k e2 with e3|e3
  ·exact ((hold y hy).2 k e).2 e3
  ·have:=((hold y hy).1.lt _ e).2
   omega
theorem Stays.q {S:Nat→Prop} {W W':World} {b:Nat} {o:Obj} (hs:Stays S W W') (hq:W.heap[b]?=some o) (hb:¬S b):W'.heap[b]?=some o:=(hs.block b (zy hq) hb).trans hq
theorem qw {W W2:World} {o:Obj} {row:Option Nat} (hg:(W.alloc o).grownBy W2 row):Stays (fun k=>row=some k) W W2 :=
 (Below.stays ((Below.refl _ W).alloc (Nat.le_refl _) _) _).trans (Stays.grown (S:=fun k=>row=some k) hg (fun _ e=>e)) (fun _ e => .inl e)
theorem RowsI.rc {W:World} {M:Nat→Prop} {L:Nat} {v:Value} {pre:List (Value × List Int)} (h:RowsI W M L v pre) (hn:pre.length≤17592186044416) (hm:∀x,x∈pre→x.2.length≤17592186044416) :
  ∃a c,v = .slice a pre.length c∧RC W a pre.length (pre.map Prod.snd)∧pre.length≤c:=by
 obtain ⟨a,c,rfl⟩:=zr h.1
 refine ⟨a,c,rfl,⟨⟨by rw[List.length_map],hn⟩,fun k hk=>?_⟩,?_⟩
 ·obtain ⟨g,cap,x,hv,hx,hc,_,hg,_⟩:=jq (zI h.1 (Nat.zero_le _)) k hk
  simp only[Value.slice.injEq] at hv
  obtain ⟨rfl,_,_⟩:=hv
  have hx2:x=(pre[k]'hk).1:=by
   rw[List.getElem?_map,List.getElem?_eq_getElem hk] at hx
   simpa using hx.symm
  have hrow:=(h.2.2 _ (List.getElem_mem hk)).1
  obtain ⟨a9,c9,he9⟩:=zr hrow
  rw[he9] at hrow
  have hic:=IC.of_owns hrow (hm _ (List.getElem_mem hk))
  refine ⟨g,0,a9,_,c9,rfl,hg,by rw[Nat.zero_add,hc,hx2,he9],?_,hic.2⟩
  rw[List.getElem?_map,List.getElem?_eq_getElem hk]
  exact hic.1
 ·rcases h.1.2 with ⟨e,e2⟩|⟨_,_,_,e,_,_,e3,_⟩
  ·simp only[Value.slice.injEq] at e;omega
  ·simp only[Value.slice.injEq] at e;omega
theorem owns_cells {W:World} {base:Nat} {e:TypeId} {size:Nat} {v:Value} {n:Nat} {xs:List Value} (h:W.ownsRow base e size v n xs) {j:Nat} {o:Obj} (hj:v.ownBlock=some j) (ho:W.heap[j]?=some o):o.isCells=true:=by
 rcases h.2 with ⟨e2,_⟩|⟨g,cap,cur,e2,_,hg,_⟩
 ·rw[e2] at hj;cases hj
 ·rw[e2] at hj;cases hj
  rw[hg] at ho;cases ho;rfl
theorem visit_len {C:Cst}:∀(k:Nat) (P f:List Int),f∈visit C k P→f.length=C.g.length
 | 0,_,_,h=>by simp[visit] at h
 | k+1,P,f,h=>by
  simp only[visit] at h
  cases hn:jJ C P with
  | none=>rw[hn] at h;simp at h
  | some P' =>
   rw[hn] at h
   simp only at h
   rcases List.mem_append.1 h with h|h
   ·split at h
    ·rw[List.mem_singleton.1 h];exact fillP_len _ _
    ·cases h
   ·exact visit_len k P' f h
theorem sols_len {ls:List (List Int)} {sum:Int} {g P f:List Int} (h:f∈jk ls sum g P):f.length=g.length:=by
 unfold jk sols at h
 split at h
 ·split at h
  ·cases h
  ·rw[List.mem_singleton.1 h];exact fillP_len _ _
 ·exact visit_len _ _ _ h
def FewI (B:Nat) (w:World) (L b3 b5:Nat) (most:Int) (pre:List (Value × List Int)) (M:Nat→Prop) (W:World):Prop :=
 OldI B w W M∧BoxI W M b3 #[.int .i64 most] 3∧(∃v,BoxI W M b5 #[v] 22∧RowsI W M L v pre)∧L≤W.heap.size∧(pre.length:Int)<most
theorem fewI_stable {B:Nat} {w:World} {L b3 b5:Nat} {most:Int} {L':Nat} (h1:B≤L') (h2:B≤w.heap.size):StableL L' (FewI B w L b3 b5 most) :=
 ja (stable_old h1 h2) (ja (jK _ _ _) (ja (stable_ex fun v=>ja (jK _ _ _) (stable_rows v)) (ja stable_size (qf _))))
def FewX (B:Nat) (w:World) (L b5:Nat) (most:Int) (c:Code) (pre:List (Value × List Int)) (M:Nat→Prop) (W:World):Prop :=
 c = .exit 0∧OldI B w W M∧(∃v,BoxI W M b5 #[v] 22∧RowsI W M L v pre)∧L≤W.heap.size∧(pre.length:Int)=most
theorem fewX_stable {B:Nat} {w:World} {L b5:Nat} {most:Int} {L':Nat} (h1:B≤L') (h2:B≤w.heap.size) (c:Code):StableL L' (FewX B w L b5 most c) :=
 ja (qf _) (ja (stable_old h1 h2) (ja (stable_ex fun v=>ja (jK _ _ _) (stable_rows v)) (ja stable_size (qf _))))
theorem RowsI.base {W:World} {M:Nat→Prop} {L L':Nat} {v:Value} {pre:List (Value × List Int)} (h:RowsI W M L v pre) (hl:L'≤L):RowsI W M L' v pre :=
 ⟨zI h.1 hl,h.2.1,fun x hx=>⟨zI (h.2.2 x hx).1 hl,(h.2.2 x hx).2⟩⟩
theorem few_r (b bx:Nat) (Im:Nat→Prop) (C:Cst) (vf vp:Value) (P:List Int) (w:World) (h:SR w b Im C vf vp P) (he:Even C) (hx:w.cell? ⟨bx,0,none⟩=some (.pointer (some ⟨b,0,none⟩))) (hbx:bx<w.heap.size) (hnb:¬Mut b vf vp bx)
  (B:Nat) (hB:B≤w.heap.size) (hMB:∀k,Mut b vf vp k→B≤k) (most:Int) (hm1:1≤most) (hm2:most≤1000000) :
  Calls Tryz.prog 67 #[solV bx,.int .i64 most] w fun e w'=>∃v pre,e = .returned v∧RowsI w' (fun _=>False) w.heap.size v pre∧pre.map Prod.snd=(jk C.ls C.sum C.g P).take most.toNat∧(pre.length:Int)≤most∧Below B w w':=by
 refine calls_of_marks Tryz.func67 rfl ?_
 simp only[Tryz.ntmps67,List.size_toArray,List.length_cons,List.length_nil,Nat.reduceAdd,Nat.reduceSub,Array.replicate_succ,Array.replicate_zero,List.push_toArray,List.append_toArray,List.nil_append,List.cons_append]
 have H:=za h
 have HX:=za hx
 have HE:=za he
 clear h hx he
 go_wp2_with fail
 have fsz:((w.alloc (.cells #[.int .i64 most] 3)).alloc (.cells #[.slice none 0 0] 22)).heap.size=w.heap.size+2:=by simp only[World.size_alloc] <;> omega
 have fB:Below w.heap.size w ((w.alloc (.cells #[.int .i64 most] 3)).alloc (.cells #[.slice none 0 0] 22)):=((Below.refl _ _).alloc (Nat.le_refl _) _).alloc (by simp only[World.size_alloc];omega) _
 have fq0:((w.alloc (.cells #[.int .i64 most] 3)).alloc (.cells #[.slice none 0 0] 22)).heap[w.heap.size]?=some (.cells #[.int .i64 most] 3 (0,0)):=by have h:=World.alloc_heap_new w (.cells #[.int .i64 most] 3);exact (Below.heap_alloc _ _ _ (by simp only[World.size_alloc];omega)).trans (h)
 have fq1:((w.alloc (.cells #[.int .i64 most] 3)).alloc (.cells #[.slice none 0 0] 22)).heap[w.heap.size+1]?=some (.cells #[.slice none 0 0] 22 (0,0)):=by have h:=World.alloc_heap_new (w.alloc (.cells #[.int .i64 most] 3)) (.cells #[.slice none 0 0] 22);simp only[World.size_alloc] at h;exact h
 generalize ((w.alloc (.cells #[.int .i64 most] 3)).alloc (.cells #[.slice none 0 0] 22))=W0 at fsz fB fq0 fq1 ⊢
 have HSZ:=za fsz
 have hsz:w.heap.size+1<W0.heap.size:=by omega
 clear fsz
 have hge:∀k,Mut b vf vp k→k<w.heap.size:=fun k hk=>H.out.mutLt hk
 obtain ⟨i0,hi,hz0,hz1,hz2⟩:=info_parts infoRow
 refine wp_range_sol (H.out.below fB) HE.out (((zF fB).1 _ _ hbx).trans HX.out) (by omega) hnb rfl
  (FewI B w W0.heap.size w.heap.size (w.heap.size+1) most) (FewX B w W0.heap.size (w.heap.size+1) most) ?hI ?hIx ?h0 ?act ?assign ?body ?done ?stop
 case hI=>exact fewI_stable (by omega) hB
 case hIx=>exact fewX_stable (by omega) hB
 case h0=>exact ⟨⟨fB.mono hB,hMB⟩,⟨fq0,fun e=>by have:=hge _ e;omega⟩,⟨_,⟨fq1,fun e=>by have:=hge _ e;omega⟩,RowsI.nil _ _ _⟩,Nat.le_refl _,by simp;omega⟩
 case assign =>
  intro l x W K hK
  gi_wp2
  exact hK
 case body =>
  rintro l pre ⟨xv,xl⟩ M W4 W hI0 hst hnew hgiv
  obtain ⟨⟨hBB4,hM⟩,⟨q34,m3⟩,⟨v,⟨q54,m5⟩,hrow4⟩,hsz4,hle⟩:=hI0
  have q3:=hst.at q34 (fun e=>e)
  have q5:=hst.at q54 (fun e=>e)
  have hrow:=hrow4.keep (hst.mono (M':=M) (fun _ e=>e.elim)) (fun _ e => .inl e)
  have hsz2:=Nat.le_trans hsz4 hst.size
  have hBB:Below B w W:=hst.below hBB4 (by omega) hB (fun _ e=>e.elim)
  have hv4:∀k,v.ownBlock=some k→k<W4.heap.size:=fun k e=>(hrow4.1.lt k e).2
  clear hrow4 q34 q54
  obtain ⟨ax,cx,hxv⟩:=zr hgiv.1
  dsimp only at hxv
  subst hxv
  obtain ⟨av,cv,rfl⟩:=zr hrow.1
  have c3:=zc q3 0
  have c5:=zc q5 0
  have f5:=zo q5 0
  have hv3:¬(Value.slice av pre.length cv).ownBlock=some w.heap.size:=fun e=>by have:=(hrow.1.lt _ e).1;omega
  have hv5:¬(Value.slice av pre.length cv).ownBlock=some (w.heap.size+1):=fun e=>by have:=(hrow.1.lt _ e).1;omega
  have hxn:∀k,(Value.slice ax xl.length cx).ownBlock=some k→¬M k∧(Value.slice av pre.length cv).ownBlock≠some k:=fun k e=>⟨fun e2=>hgiv.2.1 k e (.inr (.inl e2)),fun e2=>by have h1:=hv4 k e2;have h2:=hnew k e;omega⟩
  have hfin:∀w1 v',(W.alloc (.cells #[.slice ax xl.length cx] 25)).grownBy w1 (Value.slice av pre.length cv).ownBlock→w1.ownsRow W0.heap.size 25 1 v' (pre.length+1) (pre.map Prod.fst++[.slice ax xl.length cx])→(v'.ownBlock=(Value.slice av pre.length cv).ownBlock∨v'.ownBlock=some (W.alloc (.cells #[.slice ax xl.length cx] 25)).heap.size) →
    KeepsOthers W (w1.setCell ⟨w.heap.size+1,0,none⟩ v')∧KpS Im bx M W (w1.setCell ⟨w.heap.size+1,0,none⟩ v')∧OldI B w (w1.setCell ⟨w.heap.size+1,0,none⟩ v') M∧BoxI (w1.setCell ⟨w.heap.size+1,0,none⟩ v') M w.heap.size #[.int .i64 most] 3∧BoxI (w1.setCell ⟨w.heap.size+1,0,none⟩ v') M (w.heap.size+1) #[v'] 22∧RowsI (w1.setCell ⟨w.heap.size+1,0,none⟩ v') M W0.heap.size v' (pre++[(.slice ax xl.length cx,xl)])∧W0.heap.size≤(w1.setCell ⟨w.heap.size+1,0,none⟩ v').heap.size:=by
   intro w1 v' hgrow hown' hnew'
   have hs2:=qw hgrow
   have q3':=hs2.q q3 hv3
   have q5':=hs2.q q5 hv5
   have hr:=hrow.append hgiv.2.2 hgiv.1 hxn hs2 hown' (fun k e=>hnew'.imp (fun e2=>by rw[← e2];exact e) (fun e2=>by rw[e2] at e;cases e;simp))
   have hset:∀k,k<w1.heap.size→k≠w.heap.size+1→(w1.setCell ⟨w.heap.size+1,0,none⟩ v').heap[k]?=w1.heap[k]?:=fun k _ hk=>Below.heap_setCell _ _ _ _ hk
   have hvB:∀k,(Value.slice av pre.length cv).ownBlock=some k→W0.heap.size≤k:=fun k e=>(hrow.1.lt k e).1
   refine ⟨?_,?_,⟨?_,hM⟩,⟨zU q3' (by omega) _,m3⟩,⟨zC q5' _,m5⟩,hr.setCell (by omega) _,?_⟩
   ·refine ((KeepsOthers.alloc W _).trans (KeepsOthers.of_grownBy hgrow ?_)).trans (KeepsOthers.setCell _ _ _)
    intro j o e ho
    exact owns_cells (hrow.1.alloc _) e ho
   ·refine ⟨?_,fun k hk hb=>(hset k (Nat.lt_of_lt_of_le hk hs2.size) ?_).trans (hs2.block k hk ?_)⟩
    ·have:=hs2.size
     have h2:(w1.setCell ⟨w.heap.size+1,0,none⟩ v').heap.size=w1.heap.size:=by simp[World.setCell]
     omega
    ·rintro rfl
     rcases hb with hb|hb|hb
     ·have:=H.out.imLt _ hb;omega
     ·exact m5 hb
     ·omega
    ·intro e
     have:=hvB k e
     rcases hb with hb|hb|hb
     ·have:=H.out.imLt _ hb;omega
     ·exact hrow.2.1 k e hb
     ·omega
   ·refine Below.setCell (p:=⟨w.heap.size+1,0,none⟩) ?_ (by show B≤w.heap.size+1;omega) _
    exact hBB.trans (hs2.below (by have:=hBB.size;omega) (fun k e=>by have:=hvB k e;omega))
   ·have:=hs2.size
    have h2:(w1.setCell ⟨w.heap.size+1,0,none⟩ v').heap.size=w1.heap.size:=by simp[World.setCell]
    omega
  by_cases hb:(pre.length:Int)+1=most
  ·have hb1:(((pre.length:Int)+1)==most)=true:=by simpa using hb
   have HB:=za hb
   have HFIN:=za hfin
   clear hb hfin
   gi_wp2_with (gi_at_builtin;refine wpListIn_append_own_at _ rfl _ _ 22 rfl W0.heap.size 25 i0 (.slice none 0 0) 1 24 Tryz.underlying22 hi hz0 hz1 hz2 rfl (by decide) _ _ _ rfl (hrow.1.alloc _) ⟨W.heap.size,0,none⟩ 1 1 [.slice ax xl.length cx] rfl rfl (cell_one_new _ _ _) (by simp[Value.oneCell']) (by unfold maxLen;omega) (by omega) (by simp;omega) ?_;intro v' w1 hown' hgrow _ hnew';obtain ⟨av',cv',rfl⟩:=zr hown';have hs2:=qw hgrow;have q3':=hs2.q q3 hv3;have q5':=hs2.q q5 hv5;have c3':=zc q3' 0;have c5':=zc q5' 0;have f5':=zo q5' 0)
   obtain ⟨a1,a2,a3,a4,a5,a6,a7⟩:=HFIN.out _ _ hgrow hown' hnew'
   exact ⟨a1,a2,rfl,a3,⟨_,a5,a6⟩,a7,by have:=HB.out;simp;omega⟩
  ·have hb1:(((pre.length:Int)+1)==most)=false:=by simpa using hb
   have HB:=za hb
   have HFIN:=za hfin
   clear hb hfin
   gi_wp2_with (gi_at_builtin;refine wpListIn_append_own_at _ rfl _ _ 22 rfl W0.heap.size 25 i0 (.slice none 0 0) 1 24 Tryz.underlying22 hi hz0 hz1 hz2 rfl (by decide) _ _ _ rfl (hrow.1.alloc _) ⟨W.heap.size,0,none⟩ 1 1 [.slice ax xl.length cx] rfl rfl (cell_one_new _ _ _) (by simp[Value.oneCell']) (by unfold maxLen;omega) (by omega) (by simp;omega) ?_;intro v' w1 hown' hgrow _ hnew';obtain ⟨av',cv',rfl⟩:=zr hown';have hs2:=qw hgrow;have q3':=hs2.q q3 hv3;have q5':=hs2.q q5 hv5;have c3':=zc q3' 0;have c5':=zc q5' 0;have f5':=zo q5' 0)
   obtain ⟨a1,a2,a3,a4,a5,a6,a7⟩:=HFIN.out _ _ hgrow hown' hnew'
   exact ⟨a1,a2,a3,a4,⟨_,a5,a6⟩,a7,by have:=HB.out;simp;omega⟩
 case done =>
  rintro D xs M W hD hS ⟨⟨hBB,hM⟩,⟨q3,m3⟩,⟨v,⟨q5,m5⟩,hrow⟩,hsz2,hle⟩ hK
  have hrow2:=(hrow.keep (StaysL.putObj (L:=0) M (.deferred none) (Nat.zero_le _) hK rfl) (M':=fun _=>False) (fun _ e=>e.elim)).base (L':=w.heap.size) (by omega)
  have c5:=zc q5 0
  have HS:=za hS
  have HR:=za hrow2
  clear hS hrow hrow2
  go_wp2
  refine marks_one (v:=v) hK rfl (by simp[results,Tryz.f67,go_sem]) ⟨v,xs,rfl,HR.out,?_,by omega,putD_below hBB (by omega)⟩
  rw[← HS.out,List.take_of_length_le (by simp;omega)]
 case stop =>
  rintro D c pre M W hD hS _ ⟨rfl,⟨hBB,hM⟩,⟨v,⟨q5,m5⟩,hrow⟩,hsz2,hle⟩ hK
  have hrow2:=(hrow.keep (StaysL.putObj (L:=0) M (.deferred none) (Nat.zero_le _) hK rfl) (M':=fun _=>False) (fun _ e=>e.elim)).base (L':=w.heap.size) (by omega)
  have c5:=zc q5 0
  have HS:=za hS
  have HR:=za hrow2
  have HL:=za hle
  clear hS hle hrow hrow2
  go_wp2
  refine marks_one (v:=v) hK rfl (by simp[results,Tryz.f67,go_sem]) ⟨v,pre,rfl,HR.out,?_,by have:=HL.out;omega,putD_below hBB (by omega)⟩
  have h1:=List.prefix_iff_eq_take.1 HS.out
  rw[List.length_map,show pre.length=most.toNat from by have:=HL.out;omega] at h1
  exact h1
theorem few_c (b bx:Nat) (Im:Nat→Prop) (C:Cst) (vf vp:Value) (P:List Int) (w:World) (h:SR w b Im C vf vp P) (he:Even C) (hx:w.cell? ⟨bx,0,none⟩=some (.pointer (some ⟨b,0,none⟩))) (hbx:bx<w.heap.size) (hnb:¬Mut b vf vp bx)
  (B:Nat) (hB:B≤w.heap.size) (hMB:∀k,Mut b vf vp k→B≤k) (most:Int) (hm1:1≤most) (hm2:most≤1000000) :
  Calls Tryz.prog 67 #[solV bx,.int .i64 most] w fun e w'=>∃a n c,e = .returned (.slice a n c)∧RC w' a n ((jk C.ls C.sum C.g P).take most.toNat)∧n≤c∧Below B w w' :=
 (few_r b bx Im C vf vp P w h he hx hbx hnb B hB hMB most hm1 hm2).mono fun _ w' ⟨v,pre,e,hr,hm,hl,hb⟩=>by
  obtain ⟨a,c,rfl,hrc,hcap⟩:=hr.rc (by omega) (fun x hx=>by
   have h1:x.2∈(jk C.ls C.sum C.g P).take most.toNat:=by rw[← hm];exact List.mem_map.2 ⟨x,hx,rfl⟩
   have h2:=sols_len (List.mem_of_mem_take h1)
   have h3:=h.fine.len
   have h4:=h.fine.most
   omega)
  rw[hm] at hrc
  exact ⟨a,pre.length,c,e,hrc,hcap,hb⟩
end
section
open Go Go.RowKit Go.Shelf
attribute [local go_sem] zv
def compE (cells:Int) (ls:List (List Int)) (sum:Int) (g:List Int) (most:Int):Int:=zz [zx cells ls sum g,zn (decide (most<1)||decide (256<most)) 3,zH cells ls sum g]
def compL (cells:Int) (ls:List (List Int)) (sum:Int) (g:List Int) (most:Int):List (List Int):=if (compE cells ls sum g most != 0)=true then [] else (jk ls sum g []).take most.toNat
theorem qN {l:List Int} (h:zz l=0):∀x,x∈l→x=0:=by
 induction l with
 | nil=>intro x hx;cases hx
 | cons y l ih =>
  unfold zz at h
  by_cases e:(y != 0)=true
  ·rw[if_pos e] at h;rw[h] at e;exact absurd e (by decide)
  ·rw[if_neg e] at h
   intro x hx
   rcases List.mem_cons.1 hx with h1|h1
   ·rw[h1];simpa using e
   ·exact ih h x h1
theorem RC.none (w:World):RC w none 0 []:=⟨⟨rfl,by omega⟩,fun _ h=>absurd h (Nat.not_lt_zero _)⟩
theorem comp_c (a:Option Addr) (n c:Nat) (ls:List (List Int)) (cells sum:Int) (a':Option Addr) (n' c':Nat) (g:List Int) (most:Int) (w:World) (h:RC w a n ls) (hcap:n≤c) (h':IC w a' n' g) (hcap':n'≤c') :
  Calls Tryz.prog 15 #[.agg #[.int .i64 cells,.slice a n c,.int .i64 sum,.slice a' n' c'],.int .i64 most] w fun e w'=>∃ar nr cr,e = .returned (.tuple #[.slice ar nr cr,.int .i64 (compE cells ls sum g most)])∧RC w' ar nr (compL cells ls sum g most)∧nr≤cr∧Below w.heap.size w w':=by
 have hm:=h.small
 have hm':=h'.small
 have H:=za h
 have H':=za h'
 have hE:Hid (compE cells ls sum g most=zz [zx cells ls sum g,zn (decide (most<1)||decide (256<most)) 3,zH cells ls sum g]):=rfl
 have hL:Hid (compL cells ls sum g most=if (compE cells ls sum g most != 0)=true then [] else (jk ls sum g []).take most.toNat):=rfl
 by_cases hs1:most<1
 ·have ed1:decide (most<1)=true:=by simpa using hs1
  have hE2:Hid (compE cells ls sum g most=zz [zx cells ls sum g,zn true 3,zH cells ls sum g]):=by have:=hE.out;rw[ed1,Bool.true_or] at this;exact this
  go_enter Tryz.func15,Tryz.ntmps15
  go_wp2
  have hsz:w.heap.size<(w.alloc (.cells #[.int .i64 cells,.slice a n c,.int .i64 sum,.slice a' n' c'] 27)).heap.size:=by simp
  have hB:Below w.heap.size w (w.alloc (.cells #[.int .i64 cells,.slice a n c,.int .i64 sum,.slice a' n' c'] 27)):=(Below.refl _ _).alloc (Nat.le_refl _) _
  have x0:(w.alloc (.cells #[.int .i64 cells,.slice a n c,.int .i64 sum,.slice a' n' c'] 27)).cell? ⟨w.heap.size,0,none⟩=some (.int .i64 cells):=(zq w #[.int .i64 cells,.slice a n c,.int .i64 sum,.slice a' n' c'] 27 0).trans rfl
  have x1:(w.alloc (.cells #[.int .i64 cells,.slice a n c,.int .i64 sum,.slice a' n' c'] 27)).cell? ⟨w.heap.size,1,none⟩=some (.slice a n c):=(zq w #[.int .i64 cells,.slice a n c,.int .i64 sum,.slice a' n' c'] 27 1).trans rfl
  have x2:(w.alloc (.cells #[.int .i64 cells,.slice a n c,.int .i64 sum,.slice a' n' c'] 27)).cell? ⟨w.heap.size,2,none⟩=some (.int .i64 sum):=(zq w #[.int .i64 cells,.slice a n c,.int .i64 sum,.slice a' n' c'] 27 2).trans rfl
  have x3:(w.alloc (.cells #[.int .i64 cells,.slice a n c,.int .i64 sum,.slice a' n' c'] 27)).cell? ⟨w.heap.size,3,none⟩=some (.slice a' n' c'):=(zq w #[.int .i64 cells,.slice a n c,.int .i64 sum,.slice a' n' c'] 27 3).trans rfl
  generalize (w.alloc (.cells #[.int .i64 cells,.slice a n c,.int .i64 sum,.slice a' n' c'] 27))=W0 at hsz hB x0 x1 x2 x3 ⊢
  have HT:=za (fun w1 (hb:Below W0.heap.size W0 w1)=>task_c a n c ls cells sum a' n' c' g w1 ((H.out.mono hB).mono hb) hcap ((H'.out.mono hB).mono hb) hcap')
  have HS:=za (fun w1 (hb:Below W0.heap.size W0 w1)=>small_c a n c ls cells sum a' n' c' g w1 ((H.out.mono hB).mono hb) hcap ((H'.out.mono hB).mono hb) hcap')
  clear h h'
  refine zk (fun w'=>∃u,w'=over (W0) u) [13,12,11,10] [(0,0),(0,2),(0,3),(0,9),(1,1),(0,4),(0,5),(0,6),(0,7),(1,8),(2,10),(2,11),(2,12),(2,13)] (by kernel_rfl) (by kernel_rfl) (by exact ⟨_,zi (by repeat (first|assumption|exact Below.refl _ _|refine zd ?_|refine zg ?_ _|refine zb ?_ (by assumption)))⟩) ?_
  dsimp only[zt,zG]
  repeat (first|(refine zu rfl (fun K hK=>?_);go_big_quiet_op;refine hK _ ?_;clear hK K)|(refine zp rfl rfl (fun K hK=>?_);go_big_quiet_op;refine hK _ ?_;clear hK K)|(refine zE ?_;go_wp2_with (first|(go_at_call 56;refine (HT.out _ (zd (Below.refl _ _))).mono ?_;rintro _ w1 ⟨rfl,hb1⟩)|(go_at_call 66;refine (zO _ _ _).mono ?_;rintro _ w2 ⟨rfl,rfl⟩)|(go_at_call 63;refine (HS.out _ (zb (zd (Below.refl _ _)) hb1)).mono ?_;rintro _ w3 ⟨rfl,hb3⟩)|(go_at_call 65;refine (zK _ _ _ _ _ (IC.new3 _ _ _ _ _)).mono ?_;rintro _ w4 ⟨rfl,rfl⟩));refine ⟨?_,?_⟩;focus (exact ⟨_,zi (by repeat (first|assumption|exact Below.refl _ _|refine zd ?_|refine zg ?_ _|refine zb ?_ (by assumption)))⟩)))
  refine zA _ _ _ rfl ?_
  dsimp only[List.map]
  go_wp2_with (first|(go_at_call 56;refine (HT.out _ (zd (Below.refl _ _))).mono ?_;rintro _ w1 ⟨rfl,hb1⟩)|(go_at_call 66;refine (zO _ _ _).mono ?_;rintro _ w2 ⟨rfl,rfl⟩)|(go_at_call 63;refine (HS.out _ (zb (zd (Below.refl _ _)) hb1)).mono ?_;rintro _ w3 ⟨rfl,hb3⟩)|(go_at_call 65;refine (zK _ _ _ _ _ (IC.new3 _ _ _ _ _)).mono ?_;rintro _ w4 ⟨rfl,rfl⟩))
  refine NoPanic.normal ?_
  have hb4:Below W0.heap.size W0 (w3.alloc (.cells #[.int .i64 (zx cells ls sum g),.int .i64 (zn true 3),.int .i64 (zH cells ls sum g)] 34)):=zg (zb (zb (zd (Below.refl _ _)) hb1) hb3) _
  generalize (w3.alloc (.cells #[.int .i64 (zx cells ls sum g),.int .i64 (zn true 3),.int .i64 (zH cells ls sum g)] 34))=w5 at hb4 ⊢
  clear hb1 hb3 HT HS hE
  have y0:=((zF hb4).1 _ _ hsz).trans x0
  have y1:=((zF hb4).1 _ _ hsz).trans x1
  have y2:=((zF hb4).1 _ _ hsz).trans x2
  have y3:=((zF hb4).1 _ _ hsz).trans x3
  clear x0 x1 x2 x3
  have hBW:Below w.heap.size w w5:=hB.trans (hb4.mono (by omega))
  have hv:zz [zx cells ls sum g,zn true 3,zH cells ls sum g]≠0:=fun e=>by have:=qN e 3 (by simp[zn]);omega
  have hv':(zz [zx cells ls sum g,zn true 3,zH cells ls sum g] != 0)=true:=by simpa using hv
  have HV:=za hv
  clear hv
  generalize zz [zx cells ls sum g,zn true 3,zH cells ls sum g]=v at hE2 hv' HV ⊢
  go_wp2
  go_ret2
  refine ⟨none,0,0,?_,?_,Nat.le_refl _,hBW⟩
  ·rw[hE2.out];rfl
  ·rw[hL.out,hE2.out,if_pos hv'];exact RC.none _
 ·by_cases hs2:256<most
  ·have ed1:decide (most<1)=false:=by simpa using hs1
   have ed2:decide (256<most)=true:=by simpa using hs2
   have hE2:Hid (compE cells ls sum g most=zz [zx cells ls sum g,zn true 3,zH cells ls sum g]):=by have:=hE.out;rw[ed1,ed2,Bool.false_or] at this;exact this
   go_enter Tryz.func15,Tryz.ntmps15
   go_wp2
   have hsz:w.heap.size<(w.alloc (.cells #[.int .i64 cells,.slice a n c,.int .i64 sum,.slice a' n' c'] 27)).heap.size:=by simp
   have hB:Below w.heap.size w (w.alloc (.cells #[.int .i64 cells,.slice a n c,.int .i64 sum,.slice a' n' c'] 27)):=(Below.refl _ _).alloc (Nat.le_refl _) _
   have x0:(w.alloc (.cells #[.int .i64 cells,.slice a n c,.int .i64 sum,.slice a' n' c'] 27)).cell? ⟨w.heap.size,0,none⟩=some (.int .i64 cells):=(zq w #[.int .i64 cells,.slice a n c,.int .i64 sum,.slice a' n' c'] 27 0).trans rfl
   have x1:(w.alloc (.cells #[.int .i64 cells,.slice a n c,.int .i64 sum,.slice a' n' c'] 27)).cell? ⟨w.heap.size,1,none⟩=some (.slice a n c):=(zq w #[.int .i64 cells,.slice a n c,.int .i64 sum,.slice a' n' c'] 27 1).trans rfl
   have x2:(w.alloc (.cells #[.int .i64 cells,.slice a n c,.int .i64 sum,.slice a' n' c'] 27)).cell? ⟨w.heap.size,2,none⟩=some (.int .i64 sum):=(zq w #[.int .i64 cells,.slice a n c,.int .i64 sum,.slice a' n' c'] 27 2).trans rfl
   have x3:(w.alloc (.cells #[.int .i64 cells,.slice a n c,.int .i64 sum,.slice a' n' c'] 27)).cell? ⟨w.heap.size,3,none⟩=some (.slice a' n' c'):=(zq w #[.int .i64 cells,.slice a n c,.int .i64 sum,.slice a' n' c'] 27 3).trans rfl
   generalize (w.alloc (.cells #[.int .i64 cells,.slice a n c,.int .i64 sum,.slice a' n' c'] 27))=W0 at hsz hB x0 x1 x2 x3 ⊢
   have HT:=za (fun w1 (hb:Below W0.heap.size W0 w1)=>task_c a n c ls cells sum a' n' c' g w1 ((H.out.mono hB).mono hb) hcap ((H'.out.mono hB).mono hb) hcap')
   have HS:=za (fun w1 (hb:Below W0.heap.size W0 w1)=>small_c a n c ls cells sum a' n' c' g w1 ((H.out.mono hB).mono hb) hcap ((H'.out.mono hB).mono hb) hcap')
   clear h h'
   refine zk (fun w'=>∃u,w'=over (W0) u) [13,12,11,10] [(0,0),(0,2),(0,3),(0,9),(1,1),(0,4),(0,5),(0,6),(0,7),(1,8),(2,10),(2,11),(2,12),(2,13)] (by kernel_rfl) (by kernel_rfl) (by exact ⟨_,zi (by repeat (first|assumption|exact Below.refl _ _|refine zd ?_|refine zg ?_ _|refine zb ?_ (by assumption)))⟩) ?_
   dsimp only[zt,zG]
   repeat (first|(refine zu rfl (fun K hK=>?_);go_big_quiet_op;refine hK _ ?_;clear hK K)|(refine zp rfl rfl (fun K hK=>?_);go_big_quiet_op;refine hK _ ?_;clear hK K)|(refine zE ?_;go_wp2_with (first|(go_at_call 56;refine (HT.out _ (zd (Below.refl _ _))).mono ?_;rintro _ w1 ⟨rfl,hb1⟩)|(go_at_call 66;refine (zO _ _ _).mono ?_;rintro _ w2 ⟨rfl,rfl⟩)|(go_at_call 63;refine (HS.out _ (zb (zd (Below.refl _ _)) hb1)).mono ?_;rintro _ w3 ⟨rfl,hb3⟩)|(go_at_call 65;refine (zK _ _ _ _ _ (IC.new3 _ _ _ _ _)).mono ?_;rintro _ w4 ⟨rfl,rfl⟩));refine ⟨?_,?_⟩;focus (exact ⟨_,zi (by repeat (first|assumption|exact Below.refl _ _|refine zd ?_|refine zg ?_ _|refine zb ?_ (by assumption)))⟩)))
   refine zA _ _ _ rfl ?_
   dsimp only[List.map]
   go_wp2_with (first|(go_at_call 56;refine (HT.out _ (zd (Below.refl _ _))).mono ?_;rintro _ w1 ⟨rfl,hb1⟩)|(go_at_call 66;refine (zO _ _ _).mono ?_;rintro _ w2 ⟨rfl,rfl⟩)|(go_at_call 63;refine (HS.out _ (zb (zd (Below.refl _ _)) hb1)).mono ?_;rintro _ w3 ⟨rfl,hb3⟩)|(go_at_call 65;refine (zK _ _ _ _ _ (IC.new3 _ _ _ _ _)).mono ?_;rintro _ w4 ⟨rfl,rfl⟩))
   refine NoPanic.normal ?_
   have hb4:Below W0.heap.size W0 (w3.alloc (.cells #[.int .i64 (zx cells ls sum g),.int .i64 (zn true 3),.int .i64 (zH cells ls sum g)] 34)):=zg (zb (zb (zd (Below.refl _ _)) hb1) hb3) _
   generalize (w3.alloc (.cells #[.int .i64 (zx cells ls sum g),.int .i64 (zn true 3),.int .i64 (zH cells ls sum g)] 34))=w5 at hb4 ⊢
   clear hb1 hb3 HT HS hE
   have y0:=((zF hb4).1 _ _ hsz).trans x0
   have y1:=((zF hb4).1 _ _ hsz).trans x1
   have y2:=((zF hb4).1 _ _ hsz).trans x2
   have y3:=((zF hb4).1 _ _ hsz).trans x3
   clear x0 x1 x2 x3
   have hBW:Below w.heap.size w w5:=hB.trans (hb4.mono (by omega))
   have hv:zz [zx cells ls sum g,zn true 3,zH cells ls sum g]≠0:=fun e=>by have:=qN e 3 (by simp[zn]);omega
   have hv':(zz [zx cells ls sum g,zn true 3,zH cells ls sum g] != 0)=true:=by simpa using hv
   have HV:=za hv
   clear hv
   generalize zz [zx cells ls sum g,zn true 3,zH cells ls sum g]=v at hE2 hv' HV ⊢
   go_wp2
   go_ret2
   refine ⟨none,0,0,?_,?_,Nat.le_refl _,hBW⟩
   ·rw[hE2.out];rfl
   ·rw[hL.out,hE2.out,if_pos hv'];exact RC.none _
  ·have ed1:decide (most<1)=false:=by simpa using hs1
   have ed2:decide (256<most)=false:=by simpa using hs2
   have hE2:Hid (compE cells ls sum g most=zz [zx cells ls sum g,zn false 3,zH cells ls sum g]):=by have:=hE.out;rw[ed1,ed2,Bool.false_or] at this;exact this
   go_enter Tryz.func15,Tryz.ntmps15
   go_wp2
   have hsz:w.heap.size<(w.alloc (.cells #[.int .i64 cells,.slice a n c,.int .i64 sum,.slice a' n' c'] 27)).heap.size:=by simp
   have hB:Below w.heap.size w (w.alloc (.cells #[.int .i64 cells,.slice a n c,.int .i64 sum,.slice a' n' c'] 27)):=(Below.refl _ _).alloc (Nat.le_refl _) _
   have x0:(w.alloc (.cells #[.int .i64 cells,.slice a n c,.int .i64 sum,.slice a' n' c'] 27)).cell? ⟨w.heap.size,0,none⟩=some (.int .i64 cells):=(zq w #[.int .i64 cells,.slice a n c,.int .i64 sum,.slice a' n' c'] 27 0).trans rfl
   have x1:(w.alloc (.cells #[.int .i64 cells,.slice a n c,.int .i64 sum,.slice a' n' c'] 27)).cell? ⟨w.heap.size,1,none⟩=some (.slice a n c):=(zq w #[.int .i64 cells,.slice a n c,.int .i64 sum,.slice a' n' c'] 27 1).trans rfl
   have x2:(w.alloc (.cells #[.int .i64 cells,.slice a n c,.int .i64 sum,.slice a' n' c'] 27)).cell? ⟨w.heap.size,2,none⟩=some (.int .i64 sum):=(zq w #[.int .i64 cells,.slice a n c,.int .i64 sum,.slice a' n' c'] 27 2).trans rfl
   have x3:(w.alloc (.cells #[.int .i64 cells,.slice a n c,.int .i64 sum,.slice a' n' c'] 27)).cell? ⟨w.heap.size,3,none⟩=some (.slice a' n' c'):=(zq w #[.int .i64 cells,.slice a n c,.int .i64 sum,.slice a' n' c'] 27 3).trans rfl
   generalize (w.alloc (.cells #[.int .i64 cells,.slice a n c,.int .i64 sum,.slice a' n' c'] 27))=W0 at hsz hB x0 x1 x2 x3 ⊢
   have HT:=za (fun w1 (hb:Below W0.heap.size W0 w1)=>task_c a n c ls cells sum a' n' c' g w1 ((H.out.mono hB).mono hb) hcap ((H'.out.mono hB).mono hb) hcap')
   have HS:=za (fun w1 (hb:Below W0.heap.size W0 w1)=>small_c a n c ls cells sum a' n' c' g w1 ((H.out.mono hB).mono hb) hcap ((H'.out.mono hB).mono hb) hcap')
   clear h h'
   refine zk (fun w'=>∃u,w'=over (W0) u) [13,12,11,10] [(0,0),(0,2),(0,3),(0,9),(1,1),(0,4),(0,5),(0,6),(0,7),(1,8),(2,10),(2,11),(2,12),(2,13)] (by kernel_rfl) (by kernel_rfl) (by exact ⟨_,zi (by repeat (first|assumption|exact Below.refl _ _|refine zd ?_|refine zg ?_ _|refine zb ?_ (by assumption)))⟩) ?_
   dsimp only[zt,zG]
   repeat (first|(refine zu rfl (fun K hK=>?_);go_big_quiet_op;refine hK _ ?_;clear hK K)|(refine zp rfl rfl (fun K hK=>?_);go_big_quiet_op;refine hK _ ?_;clear hK K)|(refine zE ?_;go_wp2_with (first|(go_at_call 56;refine (HT.out _ (zd (Below.refl _ _))).mono ?_;rintro _ w1 ⟨rfl,hb1⟩)|(go_at_call 66;refine (zO _ _ _).mono ?_;rintro _ w2 ⟨rfl,rfl⟩)|(go_at_call 63;refine (HS.out _ (zb (zd (Below.refl _ _)) hb1)).mono ?_;rintro _ w3 ⟨rfl,hb3⟩)|(go_at_call 65;refine (zK _ _ _ _ _ (IC.new3 _ _ _ _ _)).mono ?_;rintro _ w4 ⟨rfl,rfl⟩));refine ⟨?_,?_⟩;focus (exact ⟨_,zi (by repeat (first|assumption|exact Below.refl _ _|refine zd ?_|refine zg ?_ _|refine zb ?_ (by assumption)))⟩)))
   refine zA _ _ _ rfl ?_
   dsimp only[List.map]
   go_wp2_with (first|(go_at_call 56;refine (HT.out _ (zd (Below.refl _ _))).mono ?_;rintro _ w1 ⟨rfl,hb1⟩)|(go_at_call 66;refine (zO _ _ _).mono ?_;rintro _ w2 ⟨rfl,rfl⟩)|(go_at_call 63;refine (HS.out _ (zb (zd (Below.refl _ _)) hb1)).mono ?_;rintro _ w3 ⟨rfl,hb3⟩)|(go_at_call 65;refine (zK _ _ _ _ _ (IC.new3 _ _ _ _ _)).mono ?_;rintro _ w4 ⟨rfl,rfl⟩))
   refine NoPanic.normal ?_
   have hb4:Below W0.heap.size W0 (w3.alloc (.cells #[.int .i64 (zx cells ls sum g),.int .i64 (zn false 3),.int .i64 (zH cells ls sum g)] 34)):=zg (zb (zb (zd (Below.refl _ _)) hb1) hb3) _
   generalize (w3.alloc (.cells #[.int .i64 (zx cells ls sum g),.int .i64 (zn false 3),.int .i64 (zH cells ls sum g)] 34))=w5 at hb4 ⊢
   clear hb1 hb3 HT HS hE
   have y0:=((zF hb4).1 _ _ hsz).trans x0
   have y1:=((zF hb4).1 _ _ hsz).trans x1
   have y2:=((zF hb4).1 _ _ hsz).trans x2
   have y3:=((zF hb4).1 _ _ hsz).trans x3
   clear x0 x1 x2 x3
   have hBW:Below w.heap.size w w5:=hB.trans (hb4.mono (by omega))
   by_cases hv:zz [zx cells ls sum g,zn false 3,zH cells ls sum g]≠0
   ·have hv':(zz [zx cells ls sum g,zn false 3,zH cells ls sum g] != 0)=true:=by simpa using hv
    have HV:=za hv
    clear hv
    generalize zz [zx cells ls sum g,zn false 3,zH cells ls sum g]=v at hE2 hv' HV ⊢
    go_wp2
    go_ret2
    refine ⟨none,0,0,?_,?_,Nat.le_refl _,hBW⟩
    ·rw[hE2.out];rfl
    ·rw[hL.out,hE2.out,if_pos hv'];exact RC.none _
   ·have hv0:zz [zx cells ls sum g,zn false 3,zH cells ls sum g]=0:=by omega
    have hv':(zz [zx cells ls sum g,zn false 3,zH cells ls sum g] != 0)=false:=by rw[hv0];rfl
    have hte:zx cells ls sum g=0:=qN hv0 _ (by simp)
    have G:=za (qg hte)
    have HV:=za hv0
    clear hv hv0 hte
    have hl':=H'.out.len
    have hl:=H.out.len
    have hm2:n'≤256:=by have:=G.out.len;have:=G.out.cells2;omega
    have hn1:n≤1000000:=by have:=G.out.lines;omega
    have hOlt:∀k,k<w.heap.size→k<w5.heap.size:=fun k hk=>by have:=hBW.size;omega
    have HA:=za (all_c a n c ls cells sum a' n' c' g w5 (H.out.mono hBW) hcap hn1 (H'.out.mono hBW) hm2 (fun k hk=>by have:=G.out.num k (by omega);have:=G.out.cells2;omega) (fun l hl=>by have h1:=G.out.lineLen hl;have h2:=G.out.len;exact ⟨h1.1,fun x hx=>by have:=h1.2 x hx;omega⟩) (fun k=>k<w.heap.size) hOlt (old_lines H.out hBW))
    generalize zz [zx cells ls sum g,zn false 3,zH cells ls sum g]=v at hE2 hv' HV ⊢
    have hm1:1≤most:=by omega
    have hm3:most≤1000000:=by omega
    go_wp2_with (first|(go_at_call 64;refine HA.out.mono ?_;rintro _ w6 ⟨bx,b,Im,ao,co,al,cl,vf,rfl,hbx1,hbx2,hbx3,hbx4,hbx5,hbx6,hsr,hb3,hb4,hb5,hb6⟩)|(go_at_call 67;refine (few_c b bx Im _ vf _ [] w6 hsr G.out.even hbx6 hbx2 (mut0 hbx3 hbx4) w.heap.size (by have:=hBW.size;have:=hb3.size;omega) (mut0_ge (by have:=hBW.size;omega) (fun k e=>by have h1:=hb5 k e;have h2:=hBW.size;omega)) most hm1 hm3).mono ?_;rintro _ w7 ⟨ar,nr,cr,rfl,hrc,hcr,hbl⟩))
    go_ret2
    refine ⟨ar,nr,cr,?_,?_,hcr,(hBW.trans (hb3.mono (by have:=hBW.size;omega))).trans hbl⟩
    ·rw[hE2.out,HV.out];rfl
    ·rw[hL.out,hE2.out,if_neg (by rw[HV.out];decide)];exact hrc
end
end Go.Proofs.YtaadpihbjhachaaGreat
