/- Texts X3 to U1 of this proof, in one file. -/
import Derived.Test.YtaadpihbjhachaaGreatW04
import Derived.Test.YtaadpihbjhachaaGreatW05
import Derived.Test.YtaadpihbjhachaaGreatW08
import Derived.Test.YtaadpihbjhachaaGreatW09
import Derived.Test.YtaadpihbjhachaaGreatW10
import Derived.Test.YtaadpihbjhachaaGreatW11
import Derived.Test.YtaadpihbjhachaaGreatW12
import Derived.Test.YtaadpihbjhachaaGreatW13
import Derived.RangeFuncCalls
import Derived.ChangeArms
import Derived.Deep.CutBlock
import Derived.Deep.CutRange
namespace Go.Proofs.YtaadpihbjhachaaGreat
set_option maxRecDepth 100000
set_option maxHeartbeats 16000000
section
open Go Go.RowKit Go.Shelf
attribute [local go_sem] over_cell
attribute [local go_sem] Oper.semAt_some
attribute [local go_sem] run_nilI
def forE (cells:Int) (ls:List (List Int)) (sum:Int) (g:List Int):Int :=
 if (smallErr cells ls sum g != 0)=true then smallErr cells ls sum g else if (solsL ls sum g []).length=0 then 21 else 0
def forV (cells:Int) (ls:List (List Int)) (sum:Int) (g:List Int):List Int:=if (smallErr cells ls sum g != 0)=true then [] else forL (solsL ls sum g [])
def ForV (L n':Nat) (v:Value) (pre:List (Value × List Int)) (M:Nat→Prop) (W:World):Prop :=
 (pre=[]∧v = .slice none 0 0)∨(pre≠[]∧W.ownsRow L 3 1 v n' ((forL (pre.map Prod.snd)).map (Value.int .i64))∧∀k,v.ownBlock=some k→¬M k)
theorem stable_forV {L L' n':Nat} (v:Value):StableL L' (fun (pre:List (Value × List Int)) M W=>ForV L n' v pre M W) :=
 fun _ _ _ _ _ h hs hn=>h.imp id (fun ⟨h1,h3,h4⟩=>⟨h1,hs.owns h3 h4,fun k e hm=>(hn k hm).elim (h4 k e) (fun h5=>by have:=(h3.lt k e).2;omega)⟩)
def ForI (w:World) (b0 b5 L n':Nat) (A0:Array Value) (pre:List (Value × List Int)) (M:Nat→Prop) (W:World):Prop :=
 OldI w.heap.size w W M∧BoxI W M b0 A0 27∧(∃v,BoxI W M b5 #[v] 25∧ForV L n' v pre M W)∧(∀x,x∈pre→x.2.length=n')∧L≤W.heap.size
theorem forI_stable {w:World} {b0 b5 L n' L':Nat} {A0:Array Value} (hL:w.heap.size≤L'):StableL L' (ForI w b0 b5 L n' A0) :=
 stable_and (stable_old hL (Nat.le_refl _)) (stable_and (stable_box _ _ _) (stable_and (stable_ex fun v=>stable_and (stable_box _ _ _) (stable_forV v)) (stable_and (stable_pure _) stable_size)))
def ForX (w:World) (b0 b5 L n':Nat) (A0:Array Value) (g:List Int) (c:Code) (pre:List (Value × List Int)) (M:Nat→Prop) (W:World):Prop :=
 c = .exit 0∧ForI w b0 b5 L n' A0 pre M W∧forL (pre.map Prod.snd)=g
theorem forX_stable {w:World} {b0 b5 L n' L':Nat} {A0:Array Value} {g:List Int} (hL:w.heap.size≤L') (c:Code):StableL L' (ForX w b0 b5 L n' A0 g c) :=
 stable_and (stable_pure _) (stable_and (forI_stable hL) (stable_pure _))
theorem forL_one (x:List Int):forL [x]=x:=by
 unfold forL
 rw[show ([x]:List (List Int)).length=0+1 from rfl,forTo_succ (by simp)]
 show fStep ((([x]:List (List Int)).take 0).foldl fStep (([x]:List (List Int))[0]?.getD [])) (([x]:List (List Int))[0]?.getD [])=x
 simp only[List.take_zero,List.foldl_nil,List.getElem?_cons_zero,Option.getD_some]
 exact fTo_self _ _
theorem forL_snoc {L:List (List Int)} (h:L≠[]) (x:List Int):forL (L++[x])=fStep (forL L) x:=by
 have hl:0<L.length:=List.length_pos_iff.2 h
 unfold forL
 rw[List.length_append,show ([x]:List (List Int)).length=1 from rfl,forTo_succ (by simp)]
 have e1:forTo (L++[x]) L.length=forTo L L.length:=by
  unfold forTo
  rw[List.take_left,List.take_length,List.getElem?_append_left hl]
 rw[e1,List.getElem?_append_right (Nat.le_refl _)]
 simp
theorem forL_append:∀(R L:List (List Int)),L≠[]→forL (L++R)=R.foldl fStep (forL L)
 | [],L,_=>by rw[List.append_nil];rfl
 | y :: R,L,h=>by
  rw[show L++y :: R=(L++[y])++R by simp,forL_append R (L++[y]) (by simp),forL_snoc h]
  rfl
theorem fStep_ext {g y:List Int} (h:∀k,k<g.length→g[k]?.getD 0≠0→y[k]?.getD 0=g[k]?.getD 0):fStep g y=g:=by
 unfold fStep
 exact ext_getD (fTo_len _ _ _) (fun k hk=>by
  rw[fTo_len] at hk
  rw[fTo_get hk]
  split
  ·rename_i h2
   by_cases e:g[k]?.getD 0=0
   ·exact e.symm
   ·exact absurd (h k hk e).symm h2.2
  ·rfl)
theorem fold_ext {g:List Int}:∀(R:List (List Int)),(∀y,y∈R→∀k,k<g.length→g[k]?.getD 0≠0→y[k]?.getD 0=g[k]?.getD 0)→R.foldl fStep g=g
 | [],_=>rfl
 | y :: R,h=>by
  rw[List.foldl_cons,fStep_ext (h y (List.mem_cons_self ..))]
  exact fold_ext R (fun z hz=>h z (List.mem_cons_of_mem _ hz))
theorem keeps_below {W W':World} (h:Below W.heap.size W W'):KeepsOthers W W':=⟨h.size,fun _ _ hk _=>keepq h hk⟩
theorem forced_c (a:Option Addr) (n c:Nat) (ls:List (List Int)) (cells sum:Int) (a':Option Addr) (n' c':Nat) (g:List Int) (w:World) (h:RC w a n ls) (hcap:n≤c) (h':IC w a' n' g) (hcap':n'≤c') :
  Calls Tryz.prog 25 #[.agg #[.int .i64 cells,.slice a n c,.int .i64 sum,.slice a' n' c']] w fun e w'=>(∃ar nr cr,e = .returned (.tuple #[.slice ar nr cr,.int .i64 (forE cells ls sum g)])∧IC w' ar nr (forV cells ls sum g)∧nr≤cr)∧Below w.heap.size w w':=by
 have hE:Hid (forE cells ls sum g=if (smallErr cells ls sum g != 0)=true then smallErr cells ls sum g else if (solsL ls sum g []).length=0 then 21 else 0):=rfl
 have hN:Hid (forV cells ls sum g=if (smallErr cells ls sum g != 0)=true then [] else forL (solsL ls sum g [])):=rfl
 obtain ⟨fe,hfe⟩:∃x,forE cells ls sum g=x:=⟨_,rfl⟩
 obtain ⟨fv,hfv⟩:∃x,forV cells ls sum g=x:=⟨_,rfl⟩
 rw[hfe] at hE ⊢
 rw[hfv] at hN ⊢
 clear hfe hfv
 refine calls_of_marks Tryz.func25 rfl ?_
 simp only[Tryz.ntmps25,List.size_toArray,List.length_cons,List.length_nil,Nat.reduceAdd,Nat.reduceSub,Array.replicate_succ,Array.replicate_zero,List.push_toArray,List.append_toArray,List.nil_append,List.cons_append]
 go_wp2_with fail
 have fsz:(w.alloc (.cells #[.int .i64 cells,.slice a n c,.int .i64 sum,.slice a' n' c'] 27)).heap.size=w.heap.size+1:=by simp only[World.size_alloc]
 have fB:Below w.heap.size w (w.alloc (.cells #[.int .i64 cells,.slice a n c,.int .i64 sum,.slice a' n' c'] 27)):=(Below.refl _ _).alloc (Nat.le_refl _) _
 have fq0:(w.alloc (.cells #[.int .i64 cells,.slice a n c,.int .i64 sum,.slice a' n' c'] 27)).heap[w.heap.size]?=some (.cells #[.int .i64 cells,.slice a n c,.int .i64 sum,.slice a' n' c'] 27 (0,0)):=by have h:=World.alloc_heap_new w (.cells #[.int .i64 cells,.slice a n c,.int .i64 sum,.slice a' n' c'] 27);exact h
 generalize (w.alloc (.cells #[.int .i64 cells,.slice a n c,.int .i64 sum,.slice a' n' c'] 27))=W0 at fsz fB fq0 ⊢
 have H:=Lib.hid h
 have H':=Lib.hid h'
 have HS:=Lib.hid (small_c a n c ls cells sum a' n' c' g W0 (h.mono fB) hcap (h'.mono fB) hcap')
 have hgl:=Lib.hid h'.len
 clear h h'
 have fsz':w.heap.size<W0.heap.size:=by omega
 clear fsz
 by_cases he:(smallErr cells ls sum g != 0)=true
 ·rw[if_pos he] at hE hN
  have hne:¬smallErr cells ls sum g=0:=by simpa using he
  go_wp2_with (go_at_call 63;refine HS.out.mono ?_;rintro _ w1 ⟨rfl,hb1⟩)
  refine marks_none (v := .tuple #[.slice none 0 0,.int .i64 (smallErr cells ls sum g)]) ?_ rfl ⟨⟨none,0,0,?_,?_,Nat.le_refl _⟩,fB.trans (hb1.mono (by omega))⟩
  ·simp[results,Tryz.f25,go_sem]
  ·rw[hE.out]
  ·rw[hN.out];exact IC.nil _
 ·have he0:smallErr cells ls sum g=0:=by simpa using he
  rw[if_neg he] at hE hN
  have hte:taskErr cells ls sum g=0:=by
   unfold smallErr at he0
   by_cases h1:(taskErr cells ls sum g != 0)=true
   ·rw[if_pos h1] at he0;exact he0
   ·simpa using h1
  have G:=Lib.hid (goodTask hte)
  rw[he0] at HS
  clear he he0 hte
  have hm':n'≤256:=by have:=G.out.len;have:=G.out.cells2;have:=hgl.out;omega
  have hm0:0<n':=by have:=G.out.len;have:=G.out.cells1;have:=hgl.out;omega
  have hn1:n≤1000000:=by have:=G.out.lines;have:=H.out.len;omega
  go_wp2_with (go_at_call 63;refine HS.out.mono ?_;rintro _ w1 ⟨rfl,hb1⟩;have hA:=(Below.refl w1.heap.size w1).alloc (Nat.le_refl _) (.cells #[.slice none 0 0] 25);have x0:=q_cell (keepq hA (keepq hb1 fq0)) 0;have x1:=q_cell (keepq hA (keepq hb1 fq0)) 1;have x2:=q_cell (keepq hA (keepq hb1 fq0)) 2;have x3:=q_cell (keepq hA (keepq hb1 fq0)) 3)
  have hz1:=hb1.size
  have g0:=keepq hA (keepq hb1 fq0)
  have g3:(w1.alloc (.cells #[.slice none 0 0] 25)).heap[w1.heap.size]?=some (.cells #[.slice none 0 0] 25 (0,0)):=World.alloc_heap_new _ _
  have hBW:Below w.heap.size w (w1.alloc (.cells #[.slice none 0 0] 25)):=(fB.trans (hb1.mono (by omega))).alloc (by omega) _
  have hbn:w1.heap.size<(w1.alloc (.cells #[.slice none 0 0] 25)).heap.size:=q_lt g3
  clear x0 x1 x2 x3 hA
  generalize (w1.alloc (.cells #[.slice none 0 0] 25))=W2 at g0 g3 hBW hbn ⊢
  have hOlt:∀k,k<w.heap.size→k<W2.heap.size:=fun k hk=>by have:=hBW.size;omega
  refine (all_c a n c ls cells sum a' n' c' g W2 (H.out.mono hBW) hcap hn1 (H'.out.mono hBW) hm' (fun k hk=>by have:=G.out.num k (by have:=hgl.out;omega);have:=G.out.cells2;omega) (fun l hl=>by have h1:=G.out.lineLen hl;have h2:=G.out.len;have h3:=hgl.out;exact ⟨h1.1,fun x hx=>by have:=h1.2 x hx;omega⟩) (fun k=>k<w.heap.size) hOlt (old_lines H.out hBW)).mono ?_
  rintro _ w3 ⟨bx,b,Im,ao,co,al,cl,vf,rfl,hbx1,hbx2,hbx3,hbx4,hbx5,hbx6,hsr,hb3,hb4,hb5,hb6⟩
  have p0:=keepq hb3 g0
  have p3:=keepq hb3 g3
  go_wp2_with fail
  have hnb:¬Mut b vf (.slice none 0 0) bx:=by
   rintro (e|e|e)
   ·exact hbx3 e
   ·exact hbx4 e
   ·cases e
  have hge:∀k,Mut b vf (.slice none 0 0) k→W2.heap.size≤k:=by
   rintro k (e|e|e)
   ·omega
   ·exact hb5 k e
   ·cases e
  have hev:Even ⟨cells,a,n,c,ls,sum,a',n',c',g,ao,co,al,cl⟩:=G.out.even
  have h3:W2.heap.size≤w3.heap.size:=hb3.size
  have hle1:w.heap.size≤w1.heap.size:=by omega
  have hBW3:=hBW.trans (hb3.mono hBW.size)
  refine wp_range_solt hsr hev hbx6 hbx2 hnb rfl
   (ForI w w.heap.size w1.heap.size w3.heap.size n' #[.int .i64 cells,.slice a n c,.int .i64 sum,.slice a' n' c']) (ForX w w.heap.size w1.heap.size w3.heap.size n' #[.int .i64 cells,.slice a n c,.int .i64 sum,.slice a' n' c'] g) ?hI ?hIx ?h0 ?act ?assign ?body ?done ?stop
  case hI=>exact forI_stable (by omega)
  case hIx=>exact forX_stable (by omega)
  case h0 =>
   exact ⟨⟨hBW3,fun k hk=>by have:=hge k hk;have:=hBW.size;omega⟩,⟨p0,fun e=>by have:=hge _ e;have:=hBW.size;omega⟩,⟨_,⟨p3,fun e=>by have:=hge _ e;omega⟩,.inl ⟨rfl,rfl⟩⟩,fun x hx=>(by cases hx),Nat.le_refl _⟩
  case assign =>
   intro l x W K hK
   gi_wp2
   exact hK
  case body =>
   rintro l pre ⟨xv,xl⟩ M W4 W ⟨hO4,hb04,⟨v,hb54,hv4⟩,hlen,hsz4⟩ hst hnew ⟨hgiv,hxl⟩
   have q0:=hst.at hb04.1 (fun e=>e)
   have q5:=hst.at hb54.1 (fun e=>e)
   have m0:=hb04.2
   have m5:=hb54.2
   have hM:=hO4.2
   have hB:Below w.heap.size w W:=hst.below hO4.1 (by omega) (Nat.le_refl _) (fun _ e=>e.elim)
   have hvlt:pre≠[]→∀q,v.ownBlock=some q→q<W4.heap.size:=fun hp q e=>by
    rcases hv4 with ⟨h,_⟩|⟨_,h,_⟩
    ·exact absurd h hp
    ·exact (h.lt q e).2
   have hv:=stable_forV (L:=w3.heap.size) (L':=w3.heap.size) (n':=n') v pre M M W4 W hv4 (hst.mono (fun _ e=>e.elim)) (fun _ e => .inl e)
   obtain ⟨ax,cx,hxv⟩:=owns_shape hgiv.1
   dsimp only at hxv hxl
   subst hxv
   have hxn:xl.length=n':=hxl.trans hgl.out
   have hown:W.ownsRow w3.heap.size 3 1 (.slice ax n' cx) n' (xl.map (Value.int .i64)):=by have:=hgiv.1;dsimp only at this;rwa [hxn] at this
   have hnx:∀k,(Value.slice ax n' cx).ownBlock=some k→¬KbS Im bx M k∧W4.heap.size≤k:=fun k e=>by
    refine ⟨hgiv.2.1 k ?_,hnew k ?_⟩
    ·dsimp only;rw[hxn];exact e
    ·dsimp only;rw[hxn];exact e
   obtain ⟨gx,curx,rfl,hgx,_⟩:=owns_blk hown hm0
   obtain ⟨hnk,hgx4⟩:=hnx gx rfl
   have hnM:¬M gx:=fun e=>hnk (.inr (.inl e))
   have hk5:¬KbS Im bx M w1.heap.size:=by
    rintro (e|e|e)
    ·rcases hb6 _ e with e2|e2 <;> omega
    ·exact m5 e
    ·omega
   have hszW:=hst.size
   have hgl2:xl.length=n':=hxn
   clear hnx hgiv hnew hst hb04 hb54
   dsimp only
   rw[hxn]
   have c5:=q_cell q5 0
   have f5:=q_free q5 0
   have l5:=q_lt q5
   have t3:W.cell? ⟨w.heap.size,3,none⟩=some (.slice a' n' c'):=q_cell q0 3
   have l0:=q_lt q0
   rcases hv with ⟨rfl,rfl⟩|⟨hne,hov,hvm⟩
   ·have q5':=q_set (i:=0) q5 (.slice (some ⟨gx,0,none⟩) n' cx)
    have q0':=q_other q0 (b':=w1.heap.size) (i:=0) (by omega) (.slice (some ⟨gx,0,none⟩) n' cx)
    have hown5:(W.setCell ⟨w1.heap.size,0,none⟩ (.slice (some ⟨gx,0,none⟩) n' cx)).ownsRow w3.heap.size 3 1 (.slice (some ⟨gx,0,none⟩) n' cx) n' (xl.map (Value.int .i64)):=owns_keep hown (fun k e _=>Below.heap_setCell _ _ _ _ (fun e2=>by cases e;simp at e2;omega))
    have hB5:=hB.setCell (p:=⟨w1.heap.size,0,none⟩) hle1 (.slice (some ⟨gx,0,none⟩) n' cx)
    have hK5:=KeepsOthers.setCell W ⟨w1.heap.size,0,none⟩ (.slice (some ⟨gx,0,none⟩) n' cx)
    have hP5:KpS Im bx M W (W.setCell ⟨w1.heap.size,0,none⟩ (.slice (some ⟨gx,0,none⟩) n' cx)):=KpS.setCell _ hk5
    have HIC:=Lib.hid (IC.of_owns (xs:=xl) (by rw[hgl2];exact hown5) (by rw[hgl2];omega)).1
    have Q0:=Lib.hid q0'
    have Q5:=Lib.hid q5'
    have OW:=Lib.hid hown5
    have HK5:=Lib.hid hK5
    have HP5:=Lib.hid hP5
    have HB5:=Lib.hid hB5
    clear hown hown5 hK5 hP5 hB5 q0' q5'
    gi_wp2_with fail
    clear c5 f5 l5 t3 l0 q0 q5
    generalize (W.setCell ⟨w1.heap.size,0,none⟩ (.slice (some ⟨gx,0,none⟩) n' cx))=W5 at Q0 Q5 OW HK5 HP5 HB5 HIC ⊢
    gi_loopw [7,21] (fun _ cv ws=>∃k:Nat,k≤n'∧cv = .int .i64 k∧Below W5.heap.size W5 ws) (fun _ cv _=>n' - (intOf cv).toNat)
    case atStart=>exact ⟨0,by omega,rfl,Below.refl _ _⟩
    case round =>
     obtain ⟨k,hk,rfl,hbr⟩:=hrel
     have c5:wr.cell? ⟨w1.heap.size,0,none⟩=some (.slice (some ⟨gx,0,none⟩) n' cx):=q_cell (keepq hbr Q5.out) 0
     have l5:=q_lt (keepq hbr Q5.out)
     by_cases hlt:k<n'
     ·obtain ⟨bg,og,e,hbg,hcg⟩:=(HIC.out.mono hbr).2 k hlt
      cases e
      rw[Nat.zero_add] at hcg
      have hki:(k:Int)<(n':Int):=by omega
      generalize xl[k]?.getD 0=x at hcg
      have mx:(x != x)=false:=by simp
      gi_wp2_with fail
      refine wpIn_region_S (fun w'=>∃u,w'=over (wr) u) [] [(0,0),(0,1),(0,2),(0,3),(0,4),(0,5),(0,6),(0,7),(0,8)] (by kernel_rfl) (by kernel_rfl) (by kernel_rfl) (fun _ _ h=>h) (by exact ⟨_,below_over (by repeat (first|assumption|exact Below.refl _ _|refine keep_drew ?_|refine keep_alloc ?_ _|refine keep_trans ?_ (by assumption)))⟩) ?_
      dsimp only[pickOps,nthOp]
      repeat (first|(refine wpS_skip rfl (fun K hK=>?_);go_big_quiet_op;refine hK _ ?_;clear hK K)|(refine wpS_quiet rfl rfl (fun K hK=>?_);go_big_quiet_op;refine hK _ ?_;clear hK K))
      refine wpS_end ?_
      gi_wp2
      go_roundw
      case rel=>exact ⟨k+1,by omega,by go_num,hbr.drew⟩
      case measure=>simp[intOf];omega
     ·have e:k=n':=by omega
      subst e
      have t3:wr.cell? ⟨w.heap.size,3,none⟩=some (.slice a' k c'):=q_cell (keepq hbr Q0.out) 3
      have l0:=q_lt (keepq hbr Q0.out)
      have hEQ:=Lib.hid (equal_c _ _ _ _ cx c' xl g wr (HIC.out.mono hbr) (H'.out.mono (HB5.out.trans (hbr.mono HB5.out.size))))
      gi_wp2_with fail
      refine ⟨trivial,rfl,((callsIn_wide.2 hEQ.out).inRound _).mono ?_⟩
      rintro _ w6 ⟨rfl,hb6'⟩
      have hBe:Below W5.heap.size W5 w6:=hbr.trans (hb6'.mono hbr.size)
      have HF:Hid (KeepsOthers W w6∧KpS Im bx M W w6∧ForI w w.heap.size w1.heap.size w3.heap.size k #[.int .i64 cells,.slice a n c,.int .i64 sum,.slice a' k c'] ([]++[(Value.slice (some ⟨gx,0,none⟩) k cx,xl)]) M w6):=by
       refine Lib.hid ⟨HK5.out.trans (keeps_below hBe),HP5.out.trans (KpS.below hBe),⟨HB5.out.trans (hBe.mono HB5.out.size),hM⟩,⟨keepq hBe Q0.out,m0⟩,⟨_,⟨keepq hBe Q5.out,m5⟩,.inr ⟨by simp,?_,?_⟩⟩,?_,?_⟩
       ·simp only[List.nil_append,List.map_cons,List.map_nil]
        rw[forL_one]
        exact owns_keep OW.out (fun q e _=>hBe.block q (OW.out.lt q e).2)
       ·intro q e
        cases e
        exact hnM
       ·intro y hy
        simp only[List.nil_append,List.mem_singleton] at hy
        subst hy
        exact hgl2
       ·have h1:=HK5.out.1
        have h2:=hBe.size
        omega
      generalize hQ:sameB xl g=q
      have hQ':=Lib.hid hQ
      clear hQ
      cases q
      ·gi_wp2
       exact HF.out
      ·gi_wp2
       refine ⟨HF.out.1,HF.out.2.1,rfl,HF.out.2.2,?_⟩
       simp only[List.nil_append,List.map_cons,List.map_nil]
       rw[forL_one]
       exact of_decide_eq_true hQ'.out
   ·obtain ⟨av,cv,rfl⟩:=owns_shape hov
    obtain ⟨gb,cur,rfl,hgb,_⟩:=owns_blk hov hm0
    have hgb4:=hvlt hne gb rfl
    have hgbW:=(hov.lt gb rfl).2
    have hnMb:¬M gb:=hvm gb rfl
    have hkb:¬KbS Im bx M gb:=by
     rintro (e|e|e)
     ·have:=hsr.imLt _ e
      omega
     ·exact hnMb e
     ·omega
    have HF0:=Lib.hid (forL_snoc (L:=pre.map Prod.snd) (by simpa using hne) xl)
    have HPL:Hid ((forL (pre.map Prod.snd)).length=n'):=by
     unfold Hid forL
     rw[forTo_len]
     rcases pre with _|⟨p0,ps⟩
     ·exact absurd rfl hne
     ·exact hlen p0 (List.mem_cons_self ..)
    obtain ⟨O,hO⟩:∃O,forL (pre.map Prod.snd)=O:=⟨_,rfl⟩
    rw[hO] at HF0 HPL hov
    have HIC:=Lib.hid (IC.of_owns (xs:=xl) (by rw[hgl2];exact hown) (by rw[hgl2];omega)).1
    have HOWN:Hid (W.ownsRow w3.heap.size 3 1 (.slice (some ⟨gb,0,none⟩) n' cv) n' ((fTo O xl 0).map (Value.int .i64))):=by unfold Hid;rw[fTo_zero];exact hov
    have Q0:=Lib.hid q0
    have Q5:=Lib.hid q5
    have HB:=Lib.hid hB
    clear hown hov hO hvm hvlt
    gi_wp2_with fail
    clear c5 f5 l5 t3 l0 q0 q5 hB
    gi_loopw [7,21] (fun _ cw ws=>∃k:Nat,k≤n'∧cw = .int .i64 k∧ws.ownsRow w3.heap.size 3 1 (.slice (some ⟨gb,0,none⟩) n' cv) n' ((fTo O xl k).map (Value.int .i64))∧Stays (fun b=>b=gb) W ws∧KeepsOthers W ws∧KpS Im bx M W ws) (fun _ cw _=>n' - (intOf cw).toNat)
    case atStart=>exact ⟨0,by omega,rfl,HOWN.out,Stays.refl _ _,(keeps_below (Below.refl _ _)),KpS.refl _⟩
    case round =>
     obtain ⟨k,hk,rfl,hrow,hst,hko,hkp⟩:=hrel
     have hne5:w1.heap.size≠gb:=by omega
     have hne0:w.heap.size≠gb:=by omega
     have hnex:gx≠gb:=by omega
     have b5:=(hst.block _ (q_lt Q5.out) hne5).trans Q5.out
     have b0:=(hst.block _ (q_lt Q0.out) hne0).trans Q0.out
     have c5:wr.cell? ⟨w1.heap.size,0,none⟩=some (.slice (some ⟨gb,0,none⟩) n' cv):=q_cell b5 0
     have l5:=q_lt b5
     by_cases hlt:k<n'
     ·obtain ⟨bg,og,e,hbg,hcg⟩:=HIC.out.2 k hlt
      cases e
      rw[Nat.zero_add] at hcg
      have hki:(k:Int)<(n':Int):=by omega
      have hcf2:wr.cell? ⟨gx,k,none⟩=some (.int .i64 (xl[k]?.getD 0)):=(hst.cell (by omega) hnex).trans hcg
      have hbf2:gx<wr.heap.size:=by have:=hst.size;omega
      obtain ⟨g9,c9,x9,e9,hx9,hcell9,hfr9,hlt9,hn9⟩:=owns_free hrow k hlt
      simp only[Value.slice.injEq,Option.some.injEq,Addr.mk.injEq,true_and,and_true] at e9
      obtain ⟨rfl,hcap9⟩:=e9
      rw[← hcap9] at hn9
      have hval:x9 = .int .i64 (O[k]?.getD 0):=by
       rw[List.getElem?_map] at hx9
       have h1:k<(fTo O xl k).length:=by rw[fTo_len,HPL.out];exact hlt
       have h2:=fTo_get (out:=O) (f:=xl) (j:=k) (k:=k) (by rw[HPL.out];exact hlt)
       rw[if_neg (by omega),List.getElem?_eq_getElem h1,Option.getD_some] at h2
       rw[List.getElem?_eq_getElem h1] at hx9
       simp only[Option.map_some,Option.some.injEq] at hx9
       rw[← hx9,h2]
      subst hval
      have hkeep:Hid (O[k]?.getD 0=xl[k]?.getD 0→fTo O xl (k+1)=fTo O xl k):=fTo_keep
      have hdrop:Hid (O[k]?.getD 0≠xl[k]?.getD 0→fTo O xl (k+1)=(fTo O xl k).set k 0):=fTo_drop (by rw[HPL.out];exact hlt)
      generalize O[k]?.getD 0=x at hcell9 hkeep hdrop
      generalize xl[k]?.getD 0=y at hcf2 hkeep hdrop
      by_cases exy:x=y
      ·have hF:=Lib.hid (hkeep.out exy)
       have mx:(x != y)=false:=by simpa using exy
       have HO7:=Lib.hid hrow
       have HS7:=Lib.hid hst
       have HKO:=Lib.hid hko
       have HKP:=Lib.hid hkp
       clear hrow hst exy hx9 hcap9 hko hkp hcg b0 b5
       gi_wp2_with fail
       refine wpIn_region_S (fun w'=>∃u,w'=over (wr) u) [] [(0,0),(0,1),(0,2),(0,3),(0,4),(0,5),(0,6),(0,7),(0,8)] (by kernel_rfl) (by kernel_rfl) (by kernel_rfl) (fun _ _ h=>h) (by exact ⟨_,below_over (by repeat (first|assumption|exact Below.refl _ _|refine keep_drew ?_|refine keep_alloc ?_ _|refine keep_trans ?_ (by assumption)))⟩) ?_
       dsimp only[pickOps,nthOp]
       repeat (first|(refine wpS_skip rfl (fun K hK=>?_);go_big_quiet_op;refine hK _ ?_;clear hK K)|(refine wpS_quiet rfl rfl (fun K hK=>?_);go_big_quiet_op;refine hK _ ?_;clear hK K))
       refine wpS_end ?_
       gi_wp2
       go_roundw
       case rel=>exact ⟨k+1,by omega,by go_num,by rw[hF.out];exact HO7.out,HS7.out.drew,⟨HKO.out.1,HKO.out.2⟩,⟨HKP.out.1,HKP.out.2⟩⟩
       case measure=>simp[intOf];omega
      ·have hF:=Lib.hid (hdrop.out exy)
       have mx:(x != y)=true:=by simpa using exy
       have o7:(wr.drew.setCell ⟨gb,k,none⟩ (.int .i64 0)).ownsRow w3.heap.size 3 1 (.slice (some ⟨gb,0,none⟩) n' cv) n' ((fTo O xl (k+1)).map (Value.int .i64)):=by rw[hF.out,List.map_set];exact owns_set (w:=wr.drew) hrow k _
       have s7:Stays (fun b=>b=gb) W (wr.drew.setCell ⟨gb,k,none⟩ (.int .i64 0)):=hst.drew.trans (Stays.setCell (S:=fun b=>b=gb) wr.drew (p:=⟨gb,k,none⟩) rfl _) (fun _ e => .inl e)
       have k6:KeepsOthers W wr.drew:=⟨hko.1,hko.2⟩
       have k7:KeepsOthers W (wr.drew.setCell ⟨gb,k,none⟩ (.int .i64 0)):=k6.trans (KeepsOthers.setCell wr.drew ⟨gb,k,none⟩ _)
       have p7:KpS Im bx M W (wr.drew.setCell ⟨gb,k,none⟩ (.int .i64 0)):=KpS.trans (B:=wr.drew) ⟨hkp.1,hkp.2⟩ (KpS.setCell _ hkb)
       have HO7:=Lib.hid o7
       have HS7:=Lib.hid s7
       have HKO:=Lib.hid k7
       have HKP:=Lib.hid p7
       clear hrow hst exy hx9 hcap9 hko hkp hcg b0 b5 o7 s7 k6 k7 p7
       gi_wp2_with fail
       refine wpIn_region_S (fun w'=>∃u,w'=over (wr) u) [] [(0,0),(0,1),(0,2),(0,3),(0,4),(0,5),(0,6),(0,7),(0,8)] (by kernel_rfl) (by kernel_rfl) (by kernel_rfl) (fun _ _ h=>h) (by exact ⟨_,below_over (by repeat (first|assumption|exact Below.refl _ _|refine keep_drew ?_|refine keep_alloc ?_ _|refine keep_trans ?_ (by assumption)))⟩) ?_
       dsimp only[pickOps,nthOp]
       repeat (first|(refine wpS_skip rfl (fun K hK=>?_);go_big_quiet_op;refine hK _ ?_;clear hK K)|(refine wpS_quiet rfl rfl (fun K hK=>?_);go_big_quiet_op;refine hK _ ?_;clear hK K))
       refine wpS_end ?_
       gi_wp2
       go_roundw
       case rel=>exact ⟨k+1,by omega,by go_num,HO7.out,HS7.out,HKO.out,HKP.out⟩
       case measure=>simp[intOf];omega
     ·have e:k=n':=by omega
      subst e
      have t3:wr.cell? ⟨w.heap.size,3,none⟩=some (.slice a' k c'):=q_cell b0 3
      have l0:=q_lt b0
      have hOX:Hid (fTo O xl k=fStep O xl):=by unfold Hid fStep;rw[HPL.out]
      have hBr:Below w.heap.size w wr:=HB.out.trans (hst.below HB.out.size (fun q e=>by cases e;omega))
      have hICr:=(IC.of_owns (xs:=fTo O xl k) (by rw[fTo_len,HPL.out];exact hrow) (by rw[fTo_len,HPL.out];omega)).1
      have hEQ:=Lib.hid (equal_c (some ⟨gb,0,none⟩) a' k k cv c' (fTo O xl k) g wr hICr (H'.out.mono hBr))
      have HRO:=Lib.hid hrow
      have HST:=Lib.hid hst
      have HBR:=Lib.hid hBr
      have B0:=Lib.hid b0
      have B5:=Lib.hid b5
      clear hrow hst hBr hICr b0 b5
      gi_wp2_with fail
      refine ⟨trivial,rfl,((callsIn_wide.2 hEQ.out).inRound _).mono ?_⟩
      rintro _ w6 ⟨rfl,hbe⟩
      have hzr:=HST.out.size
      have HF:Hid (KeepsOthers W w6∧KpS Im bx M W w6∧ForI w w.heap.size w1.heap.size w3.heap.size k #[.int .i64 cells,.slice a n c,.int .i64 sum,.slice a' k c'] (pre++[(Value.slice (some ⟨gx,0,none⟩) k cx,xl)]) M w6):=by
       refine Lib.hid ⟨hko.trans (keeps_below hbe),hkp.trans (KpS.below hbe),⟨HBR.out.trans (hbe.mono HBR.out.size),hM⟩,⟨keepq hbe B0.out,m0⟩,⟨_,⟨keepq hbe B5.out,m5⟩,.inr ⟨by simp,?_,?_⟩⟩,?_,?_⟩
       ·rw[List.map_append,List.map_cons,List.map_nil,HF0.out,← hOX.out]
        exact owns_keep HRO.out (fun q e _=>hbe.block q (HRO.out.lt q e).2)
       ·intro q e
        cases e
        exact hnMb
       ·intro y hy
        rcases List.mem_append.1 hy with hy|hy
        ·exact hlen y hy
        ·simp only[List.mem_singleton] at hy
         subst hy
         exact hgl2
       ·have h2:=hbe.size
        omega
      generalize hQ:sameB (fTo O xl k) g=q
      have hQ':=Lib.hid hQ
      clear hQ
      cases q
      ·gi_wp2
       exact HF.out
      ·gi_wp2
       refine ⟨HF.out.1,HF.out.2.1,rfl,HF.out.2.2,?_⟩
       rw[List.map_append,List.map_cons,List.map_nil,HF0.out,← hOX.out]
       exact of_decide_eq_true hQ'.out
  case done =>
   rintro D xs M W hD hS ⟨⟨hB,hM⟩,⟨q0,m0⟩,⟨v,⟨q5,m5⟩,hv⟩,hlen,hle⟩ hK
   have c5:=q_cell q5 0
   have f5:=q_free q5 0
   have l5:=q_lt q5
   have HL:Hid (solsL ls sum g []=xs.map Prod.snd):=hS.symm
   clear hS
   have HV:=Lib.hid hv
   obtain ⟨av,nv,cv,rfl⟩:∃av nv cv,v = .slice av nv cv:=by
    rcases hv with ⟨_,rfl⟩|⟨_,h,_⟩
    ·exact ⟨_,_,_,rfl⟩
    ·obtain ⟨x,y,e⟩:=owns_shape h
     exact ⟨_,_,_,e⟩
   clear hv
   go_wp2_with fail
   refine wp_region_S (fun w'=>∃u,w'=over (W) u) [5,4] [(0,0),(0,1),(0,2),(1,3),(2,4),(2,5)] (by kernel_rfl) (by kernel_rfl) (by exact ⟨_,below_over (by repeat (first|assumption|exact Below.refl _ _|refine keep_drew ?_|refine keep_alloc ?_ _|refine keep_trans ?_ (by assumption)))⟩) ?_
   dsimp only[pickOps,nthOp]
   repeat (first|(refine wpS_skip rfl (fun K hK=>?_);go_big_quiet_op;refine hK _ ?_;clear hK K)|(refine wpS_quiet rfl rfl (fun K hK=>?_);go_big_quiet_op;refine hK _ ?_;clear hK K)|(refine wpS_loud ?_;go_wp2_with (first|(go_at_call 66;refine (when_c _ _ _).mono ?_;rintro e w2 ⟨rfl,rfl⟩));refine ⟨?_,?_⟩;focus (exact ⟨_,below_over (by repeat (first|assumption|exact Below.refl _ _|refine keep_drew ?_|refine keep_alloc ?_ _|refine keep_trans ?_ (by assumption)))⟩)))
   refine wpS_late _ _ _ rfl ?_
   dsimp only[List.map]
   go_wp2_with (first|(go_at_call 66;refine (when_c _ _ _).mono ?_;rintro e w2 ⟨rfl,rfl⟩))
   refine NoPanic.normal ?_
   go_wp2
   refine marks_one (v := .tuple #[.slice av nv cv,.int .i64 (whenV av.isNone 21)]) (w:=W.drew) hK rfl ?_ ⟨⟨av,nv,cv,?_,?_⟩,?_⟩
   ·simp[results,Tryz.f25,go_sem]
   ·rcases HV.out with ⟨rfl,e⟩|⟨hne,ho,_⟩
    ·cases e
     rw[hE.out,HL.out]
     rfl
    ·obtain ⟨gb,cur,rfl,_,_⟩:=owns_blk (by have h:=ho;obtain ⟨x,y,e⟩:=owns_shape ho;cases e;exact h) hm0
     rw[hE.out,HL.out,List.length_map,if_neg (fun e=>hne (List.length_eq_zero_iff.1 e))]
     rfl
   ·rcases HV.out with ⟨rfl,e⟩|⟨hne,ho,_⟩
    ·cases e
     rw[hN.out,HL.out]
     exact ⟨IC.nil _,Nat.le_refl _⟩
    ·obtain ⟨x,y,e⟩:=owns_shape ho
     cases e
     obtain ⟨gb,cur,rfl,_,hcell⟩:=owns_blk ho hm0
     have hD2:gb≠D:=fun e=>by subst e;rw[hcell] at hK;cases hK
     have ho2:=owns_keep (w':=W.drew.putObj D (.deferred none)) ho (fun q e _=>by cases e;exact World.putObj_heap_other hD2)
     have hl:(forL (xs.map Prod.snd)).length=n':=by
      unfold forL
      rw[forTo_len]
      rcases xs with _|⟨p0,ps⟩
      ·exact absurd rfl hne
      ·exact hlen p0 (List.mem_cons_self ..)
     rw[hN.out,HL.out]
     exact IC.of_owns (xs:=forL (xs.map Prod.snd)) (by rw[hl];exact ho2) (by rw[hl];omega)
   ·exact putD_below hB.drew (by have:=hBW.size;omega)
  case stop =>
   rintro D c0 xs M W hD hS hnx ⟨rfl,⟨⟨hB,hM⟩,⟨q0,m0⟩,⟨v,⟨q5,m5⟩,hv⟩,hlen,hle⟩,hg9⟩ hK
   have c5:=q_cell q5 0
   have f5:=q_free q5 0
   have l5:=q_lt q5
   have HL:Hid (forL (solsL ls sum g [])=forL (xs.map Prod.snd)):=by
    obtain ⟨R,hR⟩:=hS
    have hR':xs.map Prod.snd++R=solsL ls sum g []:=hR
    unfold Hid
    rw[← hR',forL_append R _ (by simpa using hnx),hg9]
    exact fold_ext R (fun y hy k hk hz=>((mem_sols G.out).1 (by rw[← hR'];exact List.mem_append_right _ hy)).ext k hk hz)
   have HN:Hid ((solsL ls sum g []).length≠0):=by
    have:(xs.map Prod.snd).length≤(solsL ls sum g []).length:=hS.length_le
    have h2:0<xs.length:=List.length_pos_iff.2 hnx
    rw[List.length_map] at this
    exact fun e=>by omega
   clear hS hg9
   have HV:=Lib.hid hv
   obtain ⟨av,nv,cv,rfl⟩:∃av nv cv,v = .slice av nv cv:=by
    rcases hv with ⟨_,rfl⟩|⟨_,h,_⟩
    ·exact ⟨_,_,_,rfl⟩
    ·obtain ⟨x,y,e⟩:=owns_shape h
     exact ⟨_,_,_,e⟩
   clear hv
   go_wp2_with fail
   refine wp_region_S (fun w'=>∃u,w'=over (W) u) [5,4] [(0,0),(0,1),(0,2),(1,3),(2,4),(2,5)] (by kernel_rfl) (by kernel_rfl) (by exact ⟨_,below_over (by repeat (first|assumption|exact Below.refl _ _|refine keep_drew ?_|refine keep_alloc ?_ _|refine keep_trans ?_ (by assumption)))⟩) ?_
   dsimp only[pickOps,nthOp]
   repeat (first|(refine wpS_skip rfl (fun K hK=>?_);go_big_quiet_op;refine hK _ ?_;clear hK K)|(refine wpS_quiet rfl rfl (fun K hK=>?_);go_big_quiet_op;refine hK _ ?_;clear hK K)|(refine wpS_loud ?_;go_wp2_with (first|(go_at_call 66;refine (when_c _ _ _).mono ?_;rintro e w2 ⟨rfl,rfl⟩));refine ⟨?_,?_⟩;focus (exact ⟨_,below_over (by repeat (first|assumption|exact Below.refl _ _|refine keep_drew ?_|refine keep_alloc ?_ _|refine keep_trans ?_ (by assumption)))⟩)))
   refine wpS_late _ _ _ rfl ?_
   dsimp only[List.map]
   go_wp2_with (first|(go_at_call 66;refine (when_c _ _ _).mono ?_;rintro e w2 ⟨rfl,rfl⟩))
   refine NoPanic.normal ?_
   go_wp2
   refine marks_one (v := .tuple #[.slice av nv cv,.int .i64 (whenV av.isNone 21)]) (w:=W.drew) hK rfl ?_ ⟨⟨av,nv,cv,?_,?_⟩,?_⟩
   ·simp[results,Tryz.f25,go_sem]
   ·rcases HV.out with ⟨rfl,e⟩|⟨hne,ho,_⟩
    ·cases e
     exact absurd rfl hnx
    ·obtain ⟨gb,cur,rfl,_,_⟩:=owns_blk (by have h:=ho;obtain ⟨x,y,e⟩:=owns_shape ho;cases e;exact h) hm0
     rw[hE.out,if_neg HN.out]
     rfl
   ·rcases HV.out with ⟨rfl,e⟩|⟨hne,ho,_⟩
    ·cases e
     exact absurd rfl hnx
    ·obtain ⟨x,y,e⟩:=owns_shape ho
     cases e
     obtain ⟨gb,cur,rfl,_,hcell⟩:=owns_blk ho hm0
     have hD2:gb≠D:=fun e=>by subst e;rw[hcell] at hK;cases hK
     have ho2:=owns_keep (w':=W.drew.putObj D (.deferred none)) ho (fun q e _=>by cases e;exact World.putObj_heap_other hD2)
     have hl:(forL (xs.map Prod.snd)).length=n':=by
      unfold forL
      rw[forTo_len]
      rcases xs with _|⟨p0,ps⟩
      ·exact absurd rfl hne
      ·exact hlen p0 (List.mem_cons_self ..)
     rw[hN.out,HL.out]
     exact IC.of_owns (xs:=forL (xs.map Prod.snd)) (by rw[hl];exact ho2) (by rw[hl];omega)
   ·exact putD_below hB.drew (by have:=hBW.size;omega)
end
section
open Go Go.RowKit
end
section
open Go Go.RowKit
end
section
open Go Go.RowKit Go.ChangeShapes Go.WideShapes
theorem O3.cellsB:Tryz.prog.cellsOf 4=1:=by kernel_rfl
section
variable {H:Type} {enc:TypeId × Value→H} {w:World} {held:Bool}
end
end
section
open Go Go.RowKit
end
section
open Go Go.RowKit
attribute [local go_sem] over_cell
attribute [local go_sem] Oper.semAt_some
theorem l4 {w:World} {b:Nat} {v0 v1 v2 v3:Value} {T:TypeId} (h:w.heap[b]?=some (.cells #[v0,v1,v2,v3] T (0,0))):w.cell? ⟨b,0,none⟩=some v0∧w.cell? ⟨b,1,none⟩=some v1∧w.cell? ⟨b,2,none⟩=some v2∧w.cell? ⟨b,3,none⟩=some v3∧b<w.heap.size:=⟨q_cell h 0,q_cell h 1,q_cell h 2,q_cell h 3,q_lt h⟩
end
section
open Go Go.RowKit
attribute [local go_sem] over_cell
attribute [local go_sem] Oper.semAt_some
def numQ (f:List Int):Int:=whenV (anyP (fun k=>outB (-999999999) 999999999 (f[k]?.getD 0)) f.length) 3
def chkE (cells:Int) (ls:List (List Int)) (f:List Int):Int:=firstL [sysErr cells ls,whenV ((f.length:Int) != cells) 2,numQ f]
theorem numQ_eq (f:List Int):numQ f=numE f:=by
 unfold numQ numE
 cases h:anyP (fun k=>outB (-999999999) 999999999 (f[k]?.getD 0)) f.length with
 | true =>
  unfold anyP at h
  rw[List.any_eq_true] at h
  obtain ⟨k,hk,e⟩:=h
  rw[List.mem_range] at hk
  have hne:errs (numBad f) f.length≠0:=fun e0=>by
   have:=errs_zero e0 k hk
   unfold numBad at this
   simp only[outB,Bool.or_eq_true,decide_eq_true_eq] at e
   rw[if_pos e] at this
   omega
  have h3:∀n,errs (numBad f) n=0∨errs (numBad f) n=3:=fun n=>by
   unfold errs
   split
   ·rename_i i _
    unfold numBad
    split
    ·exact .inr rfl
    ·exact .inl rfl
   ·exact .inl rfl
  rcases h3 f.length with e1|e1
  ·exact absurd e1 hne
  ·rw[e1];rfl
 | false =>
  symm
  refine errs_none fun k hk=>?_
  unfold anyP at h
  rw[List.any_eq_false] at h
  have:=h k (by simpa using hk)
  simp only[outB,Bool.or_eq_true,decide_eq_true_eq] at this
  unfold numBad
  rw[if_neg this]
theorem chk_good {cells:Int} {ls:List (List Int)} {f:List Int} (h:sysErr cells ls=0):chkE cells ls f=fillE cells f:=by
 unfold chkE fillE
 rw[h,numQ_eq]
 by_cases e:(f.length:Int)=cells
 ·rw[if_neg (fun h=>h e)]
  have:((f.length:Int) != cells)=false:=by simpa using e
  rw[this]
  by_cases e2:numE f=0
  ·rw[e2];rfl
  ·simp[firstL,whenV,e2]
 ·rw[if_pos e]
  have:((f.length:Int) != cells)=true:=by simpa using e
  rw[this]
  rfl
theorem lnum_c (a:Option Addr) (n c:Nat) (f:List Int) (w:World) (h:IC w a n f) :
  Calls Tryz.prog 210 #[.slice a n c] w fun e w'=>e = .returned (.int .i64 (numQ f))∧Below w.heap.size w w':=by
 have HF:=Lib.hid (from_c a n c f (-999999999) 999999999 w h)
 have HE:Hid (numQ f=whenV (anyP (fun k=>outB (-999999999) 999999999 (f[k]?.getD 0)) n) 3):=by unfold Hid numQ;rw[h.len]
 clear h
 rw[← HE.out] at HF
 generalize numQ f=e at HF ⊢
 go_enter Tryz.func210,Tryz.ntmps210
 go_wp2_with (first|(go_at_call 164;refine HF.out.mono ?_;rintro _ w1 ⟨rfl,hb1⟩))
 go_ret
 exact ⟨rfl,hb1⟩
theorem lcheck_c (a:Option Addr) (n c:Nat) (ls:List (List Int)) (cells:Int) (af:Option Addr) (nf cf:Nat) (f:List Int) (w:World) (h:RC w a n ls) (hcap:n≤c) (hf:IC w af nf f) :
  Calls Tryz.prog 140 #[.agg #[.int .i64 cells,.slice a n c],.slice af nf cf] w fun e w'=>e = .returned (.int .i64 (chkE cells ls f))∧Below w.heap.size w w':=by
 have hm:=hf.small
 have HS:=Lib.hid (fun W (hb:Below w.heap.size w W)=>sys_c a n c ls cells W (h.mono hb) hcap)
 have HN:=Lib.hid (fun W (hb:Below w.heap.size w W)=>lnum_c af nf cf f W (hf.mono hb))
 have HE:Hid (chkE cells ls f=firstL [sysErr cells ls,whenV ((nf:Int) != cells) 2,numQ f]):=by unfold Hid chkE;rw[hf.len]
 clear h hf
 generalize chkE cells ls f=e at HE ⊢
 generalize sysErr cells ls=e1 at HS HE
 generalize numQ f=e3 at HN HE
 go_enter Tryz.func140,Tryz.ntmps140
 go_wp2_with fail
 have fsz:(w.alloc (.cells #[.int .i64 cells,.slice a n c] 24)).heap.size=w.heap.size+1:=by simp only[World.size_alloc]
 have fB:Below w.heap.size w (w.alloc (.cells #[.int .i64 cells,.slice a n c] 24)):=(Below.refl _ _).alloc (Nat.le_refl _) _
 have fq0:(w.alloc (.cells #[.int .i64 cells,.slice a n c] 24)).heap[w.heap.size]?=some (.cells #[.int .i64 cells,.slice a n c] 24 (0,0)):=by have h:=World.alloc_heap_new w (.cells #[.int .i64 cells,.slice a n c] 24);exact h
 generalize (w.alloc (.cells #[.int .i64 cells,.slice a n c] 24))=W0 at fsz fB fq0 ⊢
 have x0:W0.cell? ⟨w.heap.size,0,none⟩=some (.int .i64 cells):=q_cell fq0 0
 have x1:W0.cell? ⟨w.heap.size,1,none⟩=some (.slice a n c):=q_cell fq0 1
 have xl:=q_lt fq0
 clear fq0 fsz
 refine wp_region_S (fun w'=>∃u,w'=over (W0) u) [12,11,10,9] [(0,0),(0,2),(0,3),(0,4),(0,5),(0,6),(0,8),(1,1),(1,7),(2,9),(2,10),(2,11),(2,12)] (by kernel_rfl) (by kernel_rfl) (by exact ⟨_,below_over (by repeat (first|assumption|exact Below.refl _ _|refine keep_drew ?_|refine keep_alloc ?_ _|refine keep_trans ?_ (by assumption)))⟩) ?_
 dsimp only[pickOps,nthOp]
 repeat (first|(refine wpS_skip rfl (fun K hK=>?_);go_big_quiet_op;refine hK _ ?_;clear hK K)|(refine wpS_quiet rfl rfl (fun K hK=>?_);go_big_quiet_op;refine hK _ ?_;clear hK K)|(refine wpS_loud ?_;go_wp2_with (first|(go_at_call 94;refine (HS.out _ (keep_trans fB (keep_drew (Below.refl _ _)))).mono ?_;rintro _ w1 ⟨rfl,hb1⟩)|(go_at_call 165;refine (lwhen_c _ _ _).mono ?_;rintro _ w2 ⟨rfl,rfl⟩)|(go_at_call 210;refine (HN.out _ (keep_trans fB (keep_trans (keep_drew (Below.refl _ _)) hb1))).mono ?_;rintro _ w3 ⟨rfl,hb3⟩)|(go_at_call 163;refine (lfirst_c _ _ _ _ _ (IC.new3 _ _ _ _ _)).mono ?_;rintro _ w4 ⟨rfl,rfl⟩));refine ⟨?_,?_⟩;focus (exact ⟨_,below_over (by repeat (first|assumption|exact Below.refl _ _|refine keep_drew ?_|refine keep_alloc ?_ _|refine keep_trans ?_ (by assumption)))⟩)))
 refine wpS_late _ _ _ rfl ?_
 dsimp only[List.map]
 go_wp2_with (first|(go_at_call 94;refine (HS.out _ (keep_trans fB (keep_drew (Below.refl _ _)))).mono ?_;rintro _ w1 ⟨rfl,hb1⟩)|(go_at_call 165;refine (lwhen_c _ _ _).mono ?_;rintro _ w2 ⟨rfl,rfl⟩)|(go_at_call 210;refine (HN.out _ (keep_trans fB (keep_trans (keep_drew (Below.refl _ _)) hb1))).mono ?_;rintro _ w3 ⟨rfl,hb3⟩)|(go_at_call 163;refine (lfirst_c _ _ _ _ _ (IC.new3 _ _ _ _ _)).mono ?_;rintro _ w4 ⟨rfl,rfl⟩))
 refine NoPanic.normal ?_
 go_wp2_with fail
 go_ret
 refine ⟨ret_int HE.out.symm,keep_trans fB ?_⟩
 exact keep_alloc (keep_trans (keep_trans (keep_drew (Below.refl _ _)) hb1) hb3) _
theorem lsum_c (a a':Option Addr) (n n' c c':Nat) (l f:List Int) (w:World) (h:IC w a n l) (h':IC w a' n' f) (hn:n≤1000)
  (hl:∀k,k<n→0≤l[k]?.getD 0∧l[k]?.getD 0<(n':Int)) (hf:∀c:Nat,-1000000000≤f[c]?.getD 0∧f[c]?.getD 0≤1000000000) :
  Calls Tryz.prog 211 #[.slice a n c,.slice a' n' c'] w fun e w'=>(∃s:Int,e = .returned (.int .i64 s))∧w=w':=by
 have HF:=Lib.hid hf
 have HL:=Lib.hid hl
 clear hf hl
 have hm':=h'.small
 go_enter Tryz.func211,Tryz.ntmps211
 go_wp2
 go_loop [5,7,10] (fun s _ i=>∃(k:Nat) (t:Int),k≤n∧i = .int .i64 k∧s = .int .i64 t ∧ -1000000000*(k:Int)≤t∧t≤1000000000*(k:Int)) (fun _ _ i=>n - (intOf i).toNat)
 case atStart=>exact ⟨0,0,by omega,rfl,rfl,by omega,by omega⟩
 case round =>
  obtain ⟨k,t,hk,rfl,rfl,ht1,ht2⟩:=hrel
  by_cases hlt:k<n
  ·have hki:(k:Int)<(n:Int):=by omega
   obtain ⟨b,off,rfl,hb,hc⟩:=h.2 k hlt
   have hx:=HL.out k hlt
   obtain ⟨x,hxx⟩:∃x:Nat,l[k]?.getD 0=(x:Int):=⟨(l[k]?.getD 0).toNat,by omega⟩
   rw[hxx] at hc hx
   have hxn:x<n':=by omega
   have hxi:=hx.2
   obtain ⟨b2,off2,rfl,hb2,hc2⟩:=h'.2 x hxn
   have hfx:=HF.out x
   generalize f[x]?.getD 0=y at hc2 hfx
   have hkn:(k:Int)≤1000:=by omega
   clear hx hxx
   go_wp2
   go_round
   case rel=>exact ⟨k+1,t+y,by omega,by go_num,by go_num,by omega,by omega⟩
   case measure=>simp[intOf];omega
  ·have hki:¬(k:Int)<(n:Int):=by omega
   go_wp2
   go_ret
   exact ⟨⟨_,rfl⟩,rfl⟩
end
end Go.Proofs.YtaadpihbjhachaaGreat
