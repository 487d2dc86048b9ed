/- Texts R6 to S1 of this proof, in one file. -/
import Derived.Test.YtcblpobiefmjmaaGreatW23
import Derived.Test.YtcblpobiefmjmaaGreatW30
namespace Go.Proofs.YtcblpobiefmjmaaGreat
set_option maxRecDepth 100000
set_option maxHeartbeats 16000000
section
open Go Go.RowKit
attribute [local go_sem] over_cell
attribute [local go_sem] Oper.semAt_some
structure CtI (ls:List (List Int)) (sum:Int) (g:List Int) (B:Nat) (s0:Sta) (preL:List (List Int)) (L0:Nat) (W0:World) (k:Nat) (v:Value) (wr:World) (ax:Option Addr) (nx cx:Nat) (P:List Int) (t:Int) (d:Bool) (pre:List (Value × List Int)) (acc:List (List Int)):Prop where
 hk:k≤B
 q:wr.heap[L0+1]?=some (.cells #[.slice ax nx cx,.int .i64 t,.bool d] 76 (0,0))
 path:PathC wr L0 W0.heap.size v ax nx cx P
 ok:OkG g P
 t0:0≤t∧t≤s0.2.1+k
 rows:RowsI wr noB W0.heap.size v pre
 len:pre.length≤k+1
 all:pre.map Prod.snd=preL++acc
 go:goR ls sum g B s0=((goR ls sum g (B - k) (P,t,d)).1,acc++(goR ls sum g (B - k) (P,t,d)).2)
 st:Stays (fun b=>b=L0+1) W0 wr
 loc:0<k→∀b o,0<nx→ax=some ⟨b,o,none⟩→L0≤b
 d0:k=0→d=s0.2.2
theorem CtI.stop {ls:List (List Int)} {sum:Int} {g:List Int} {B:Nat} {s0:Sta} {preL:List (List Int)} {L0:Nat} {W0:World} {k:Nat} {v:Value} {wr:World} {ax:Option Addr} {nx cx:Nat} {P:List Int} {t:Int} {d:Bool} {pre:List (Value × List Int)} {acc:List (List Int)}
  (h:CtI ls sum g B s0 preL L0 W0 k v wr ax nx cx P t d pre acc) (he:B≤k∨d=true):(goR ls sum g B s0).1=(P,t,d)∧preL++(goR ls sum g B s0).2=pre.map Prod.snd:=by
 have e:goR ls sum g (B - k) (P,t,d)=((P,t,d),[]):=by
  rcases he with e|e
  ·rw[Nat.sub_eq_zero_of_le e];rfl
  ·exact goR_done _ _ _ _ _ e
 rw[h.go,e,h.all]
 simp
theorem RowsI.short {W:World} {L:Nat} {v:Value} {pre:List (Value × List Int)} {M:Nat→Prop} (_:RowsI W M L v pre) {ls:List (List Int)} {n:Nat} (e:pre.map Prod.snd=ls) (hl:∀l,l∈ls→l.length≤n):∀x,x∈pre→x.2.length≤n:=fun x hx=>hl _ (by rw[← e];exact List.mem_map_of_mem hx)
theorem store3 {W:World} {b:Nat} {u0 u1 u2 x0 x1 x2:Value} {T:TypeId} (q:W.heap[b]?=some (.cells #[u0,u1,u2] T (0,0))) :
  (((W.setCell ⟨b,0,none⟩ x0).setCell ⟨b,1,none⟩ x1).setCell ⟨b,2,none⟩ x2).heap[b]?=some (.cells #[x0,x1,x2] T (0,0))∧Stays (fun k=>k=b) W (((W.setCell ⟨b,0,none⟩ x0).setCell ⟨b,1,none⟩ x1).setCell ⟨b,2,none⟩ x2) :=
 ⟨q_set (i:=2) (q_set (i:=1) (q_set (i:=0) q x0) x1) x2,
  ((Stays.setCell (S:=fun k=>k=b) W (p:=⟨b,0,none⟩) rfl x0).trans (Stays.setCell (S:=fun k=>k=b) _ (p:=⟨b,1,none⟩) rfl x1) (fun _ e => .inl e)).trans (Stays.setCell (S:=fun k=>k=b) _ (p:=⟨b,2,none⟩) rfl x2) (fun _ e => .inl e)⟩
theorem RowsI.at {W W':World} {L b:Nat} {v:Value} {pre:List (Value × List Int)} (h:RowsI W noB L v pre) (hs:Stays (fun k=>k=b) W W') (hb:b<L):RowsI W' noB L v pre :=
 ⟨owns_keep h.1 (fun k e hl=>hs.block k hl (fun e2=>by have:=(h.1.lt k e).1;omega)),h.2.1,fun x hx=>⟨owns_keep (h.2.2 x hx).1 (fun k e hl=>hs.block k hl (fun e2=>by have:=((h.2.2 x hx).1.lt k e).1;omega)),(h.2.2 x hx).2⟩⟩
theorem PathC.at {W W':World} {L0 L b:Nat} {v:Value} {ax:Option Addr} {nx cx:Nat} {P:List Int} (h:PathC W L0 L v ax nx cx P) (hs:Stays (fun k=>k=b) W W') (h0:L0≤b) (h1:b<L):PathC W' L0 L v ax nx cx P :=
 ⟨⟨h.1.1.stays hs (fun b' o hn e e2=>by have:=(h.2 b' o hn e).1;omega),h.1.2⟩,h.2⟩
def ContOut (B:Nat) (d:Bool) (L0:Nat) (R:Sta × List (List Int)) (e:Ending) (w':World):Prop :=
 ∃ar nr cr vf pre,e = .returned (.tuple #[.agg #[.slice ar nr cr,.int .i64 R.1.2.1,.bool R.1.2.2],vf])∧IC w' ar nr R.1.1∧nr≤cr∧RowsI w' noB L0 vf pre∧pre.map Prod.snd=R.2∧pre.length≤B+1∧(0<B→d=false→∀b o,0<nr→ar=some ⟨b,o,none⟩→L0≤b)
theorem goR_none {ls:List (List Int)} {sum:Int} {g:List Int} {B k:Nat} {P:List Int} {t:Int} (hk:k<B) (h:stpR ls sum g P=none):goR ls sum g (B - k) (P,t,false)=goR ls sum g (B - (k+1)) ([],t,true):=by
 obtain ⟨m,hm⟩:∃m,B - k=m+1:=⟨B - k - 1,by omega⟩
 rw[hm,show B - (k+1)=m from by omega,goR_done ls sum g m ([],t,true) rfl]
 simp only[goR]
 rw[if_neg (by decide),h]
theorem goR_some {ls:List (List Int)} {sum:Int} {g:List Int} {B k:Nat} {P P':List Int} {t:Int} (hk:k<B) (h:stpR ls sum g P=some P'):goR ls sum g (B - k) (P,t,false)=((goR ls sum g (B - (k+1)) (P',t+1,false)).1,(if foundR ls sum g P'=true then [fillG g P'] else [])++(goR ls sum g (B - (k+1)) (P',t+1,false)).2):=by
 obtain ⟨m,hm⟩:∃m,B - k=m+1:=⟨B - k - 1,by omega⟩
 rw[hm,show B - (k+1)=m from by omega]
 simp only[goR]
 rw[if_neg (by decide),h]
theorem pre_true {ls:List (List Int)} {sum:Int} {g:List Int} {B:Nat} {d:Bool} (h:(decide (0<B)&&!d&&((openL g).length==0)&&foundR ls sum g [])=true):preR ls sum g B d=[fillG g []]:=by
 simp only[Bool.and_eq_true,decide_eq_true_eq,Bool.not_eq_true',beq_iff_eq] at h
 unfold preR
 rw[if_pos ⟨h.1.1.1,h.1.1.2,h.1.2,h.2⟩]
theorem pre_false {ls:List (List Int)} {sum:Int} {g:List Int} {B:Nat} {d:Bool} (h:(decide (0<B)&&!d&&((openL g).length==0)&&foundR ls sum g [])=false):preR ls sum g B d=[]:=by
 unfold preR
 rw[if_neg]
 rintro ⟨h1,h2,h3,h4⟩
 rw[decide_eq_true h1,h2,h3,h4] at h
 exact absurd h (by decide)
theorem rcont_c {cells:Int} {ls:List (List Int)} {sum:Int} {g:List Int} (G:GoodTask cells ls sum g) (a:Option Addr) (n c:Nat) (a':Option Addr) (n' c':Nat) (ax:Option Addr) (nx cx:Nat) (P:List Int) (t:Int) (d:Bool) (B:Nat) (w:World) (h:RC w a n ls) (h':IC w a' n' g) (hP:IC w ax nx P) (hcx:nx≤cx) (ho:OkG g P) (ht0:0≤t) (ht1:t+B≤9000000000000000000) (hB:B≤1000000000000) :
  Calls Tryz.prog 44 #[.agg #[.int .i64 cells,.slice a n c,.int .i64 sum,.slice a' n' c'],.agg #[.slice ax nx cx,.int .i64 t,.bool d],.int .i64 B] w fun e w'=>ContOut B d w.heap.size (contR ls sum g B (P,t,d)) e w'∧Below w.heap.size w w':=by
 obtain ⟨i2,hi,hz0,hz1,hz2⟩:=info_parts infoRow
 have hgl:=h'.len
 have hn0:0<n':=by have:=G.len;have:=G.cells1;omega
 have hn1:n'≤256:=by have:=G.len;have:=G.cells2;omega
 have hpo:nx≤(openL g).length:=by have:=ho.len;have:=hP.len;omega
 have H:=Lib.hid h
 have H':=Lib.hid h'
 have HG:=Lib.hid G
 have HO:=Lib.hid (fun w1 (hb:Below w.heap.size w w1)=>ropen_c (.slice a n c) cells sum a' n' c' g w1 (h'.mono hb))
 have HFN:=Lib.hid (fun w1 (hb:Below w.heap.size w w1)=>rfound_c G a n c a' n' c' none 0 0 [] w1 (h.mono hb) (h'.mono hb) (IC.nil _) (Nat.zero_le _) (fun x hx=>(by cases hx)))
 have HPN:=Lib.hid (fun w1 (hb:Below w.heap.size w w1)=>placed_c (.slice a n c) cells sum a' n' c' g none 0 0 [] w1 (h'.mono hb) hn0 hn1 (IC.nil _) (Nat.zero_le _))
 have HPT:=Lib.hid (pre_true (ls:=ls) (sum:=sum) (g:=g) (B:=B) (d:=d))
 have HPF:=Lib.hid (pre_false (ls:=ls) (sum:=sum) (g:=g) (B:=B) (d:=d))
 have HPath:=Lib.hid hP
 have HOK:=Lib.hid ho
 have hc1:Hid ((contR ls sum g B (P,t,d)).1=(goR ls sum g B (P,t,d)).1):=rfl
 have hc2:Hid ((contR ls sum g B (P,t,d)).2=preR ls sum g B d++(goR ls sum g B (P,t,d)).2):=rfl
 obtain ⟨CR,hCR⟩:∃CR,contR ls sum g B (P,t,d)=CR:=⟨_,rfl⟩
 rw[hCR] at hc1 hc2 ⊢
 obtain ⟨preL,hpreL⟩:∃L,preR ls sum g B d=L:=⟨_,rfl⟩
 rw[hpreL] at hc2 HPT HPF
 have hft:Hid ((fillG g []).length=n'):=by unfold Hid;rw[fillG_len];exact hgl
 clear h h' hP ho G hCR hpreL
 go_enter Tryz.func44,Tryz.ntmps44
 go_upto_region 2 with fail
 have fsz:(((w.alloc (.cells #[.int .i64 cells,.slice a n c,.int .i64 sum,.slice a' n' c'] 28)).alloc (.cells #[.slice ax nx cx,.int .i64 t,.bool d] 76)).alloc (.cells #[.slice none 0 0,.int .i64 0,.bool false] 76)).heap.size=w.heap.size+3:=by simp only[World.size_alloc] <;> omega
 have fB:Below w.heap.size w (((w.alloc (.cells #[.int .i64 cells,.slice a n c,.int .i64 sum,.slice a' n' c'] 28)).alloc (.cells #[.slice ax nx cx,.int .i64 t,.bool d] 76)).alloc (.cells #[.slice none 0 0,.int .i64 0,.bool false] 76)):=(((Below.refl _ _).alloc (Nat.le_refl _) _).alloc (by simp only[World.size_alloc];omega) _).alloc (by simp only[World.size_alloc];omega) _
 have fq0:(((w.alloc (.cells #[.int .i64 cells,.slice a n c,.int .i64 sum,.slice a' n' c'] 28)).alloc (.cells #[.slice ax nx cx,.int .i64 t,.bool d] 76)).alloc (.cells #[.slice none 0 0,.int .i64 0,.bool false] 76)).heap[w.heap.size]?=some (.cells #[.int .i64 cells,.slice a n c,.int .i64 sum,.slice a' n' c'] 28 (0,0)):=by have h:=World.alloc_heap_new w (.cells #[.int .i64 cells,.slice a n c,.int .i64 sum,.slice a' n' c'] 28);exact (Below.heap_alloc _ _ _ (by simp only[World.size_alloc];omega)).trans ((Below.heap_alloc _ _ _ (by simp only[World.size_alloc];omega)).trans (h))
 have fq1:(((w.alloc (.cells #[.int .i64 cells,.slice a n c,.int .i64 sum,.slice a' n' c'] 28)).alloc (.cells #[.slice ax nx cx,.int .i64 t,.bool d] 76)).alloc (.cells #[.slice none 0 0,.int .i64 0,.bool false] 76)).heap[w.heap.size+1]?=some (.cells #[.slice ax nx cx,.int .i64 t,.bool d] 76 (0,0)):=by have h:=World.alloc_heap_new (w.alloc (.cells #[.int .i64 cells,.slice a n c,.int .i64 sum,.slice a' n' c'] 28)) (.cells #[.slice ax nx cx,.int .i64 t,.bool d] 76);simp only[World.size_alloc] at h;exact (Below.heap_alloc _ _ _ (by simp only[World.size_alloc];omega)).trans (h)
 have fq2:(((w.alloc (.cells #[.int .i64 cells,.slice a n c,.int .i64 sum,.slice a' n' c'] 28)).alloc (.cells #[.slice ax nx cx,.int .i64 t,.bool d] 76)).alloc (.cells #[.slice none 0 0,.int .i64 0,.bool false] 76)).heap[w.heap.size+1+1]?=some (.cells #[.slice none 0 0,.int .i64 0,.bool false] 76 (0,0)):=by have h:=World.alloc_heap_new ((w.alloc (.cells #[.int .i64 cells,.slice a n c,.int .i64 sum,.slice a' n' c'] 28)).alloc (.cells #[.slice ax nx cx,.int .i64 t,.bool d] 76)) (.cells #[.slice none 0 0,.int .i64 0,.bool false] 76);simp only[World.size_alloc] at h;exact h
 generalize (((w.alloc (.cells #[.int .i64 cells,.slice a n c,.int .i64 sum,.slice a' n' c'] 28)).alloc (.cells #[.slice ax nx cx,.int .i64 t,.bool d] 76)).alloc (.cells #[.slice none 0 0,.int .i64 0,.bool false] 76))=W0 at fsz fB fq0 fq1 fq2 ⊢
 have HQ0:=Lib.hid fq0
 have HQ1:=Lib.hid fq1
 have HQ2:=Lib.hid fq2
 have FSZ:=Lib.hid fsz
 have x0:W0.cell? ⟨w.heap.size,0,none⟩=some (.int .i64 cells):=q_cell fq0 0
 have x1:W0.cell? ⟨w.heap.size,1,none⟩=some (.slice a n c):=q_cell fq0 1
 have x2:W0.cell? ⟨w.heap.size,2,none⟩=some (.int .i64 sum):=q_cell fq0 2
 have x3:W0.cell? ⟨w.heap.size,3,none⟩=some (.slice a' n' c'):=q_cell fq0 3
 have xl:=q_lt fq0
 have y2:W0.cell? ⟨w.heap.size+1,2,none⟩=some (.bool d):=q_cell fq1 2
 have yl:=q_lt fq1
 clear fq0 fq1 fq2 fsz
 obtain ⟨pb,hpb⟩:∃pb,(decide (0<B)&&!d&&((openL g).length==0)&&foundR ls sum g [])=pb:=⟨_,rfl⟩
 have HPB:=Lib.hid hpb
 clear hpb
 go_cut [27] from 11 to 27 (fun v wx=>v = .bool pb∧Below W0.heap.size W0 wx)
 case first =>
  by_cases b0:0<B
  ·have b0i:(0:Int)<(B:Int):=by omega
   cases d with
   | true =>
    have HE:Hid (pb=false):=by unfold Hid;rw[← HPB.out];simp
    clear b0
    go_wp2_with fail
    go_meet
    exact ⟨by rw[HE.out],Below.refl _ _⟩
   | false =>
    by_cases o0:(openL g).length=0
    ·have o0i:(((openL g).length:Int)==0)=true:=by simp[o0]
     have HE:Hid (pb=foundR ls sum g []):=by unfold Hid;rw[← HPB.out,decide_eq_true b0,o0];simp
     clear b0 o0
     generalize foundR ls sum g []=fv at HE HFN
     go_wp2_with (first|(go_at_call 16;refine (HO.out _ fB).mono ?_;rintro _ w1 ⟨vo,rfl,howno,hb1⟩;obtain ⟨ao,co,rfl⟩:=owns_shape howno;have z0:=q_cell (keepq hb1 HQ0.out) 0;have z1:=q_cell (keepq hb1 HQ0.out) 1;have z2:=q_cell (keepq hb1 HQ0.out) 2;have z3:=q_cell (keepq hb1 HQ0.out) 3;have zl:=q_lt (keepq hb1 HQ0.out))|(go_at_call 94;refine (HFN.out _ (keep_trans fB hb1)).mono ?_;rintro _ w2 ⟨rfl,hb2⟩))
     go_meet
     exact ⟨by rw[HE.out],keep_trans hb1 hb2⟩
    ·have o0i:(((openL g).length:Int)==0)=false:=by rw[beq_eq_false_iff_ne];omega
     have HE:Hid (pb=false):=by unfold Hid;rw[← HPB.out,beq_eq_false_iff_ne.2 o0];simp
     clear b0 o0
     go_wp2_with (go_at_call 16;refine (HO.out _ fB).mono ?_;rintro _ w1 ⟨vo,rfl,howno,hb1⟩;obtain ⟨ao,co,rfl⟩:=owns_shape howno)
     go_meet
     exact ⟨by rw[HE.out],hb1⟩
  ·have b0i:¬(0:Int)<(B:Int):=by omega
   have HE:Hid (pb=false):=by unfold Hid;rw[← HPB.out,decide_eq_false b0];simp
   clear b0
   go_wp2_with fail
   go_meet
   exact ⟨by rw[HE.out],Below.refl _ _⟩
 case rest =>
  obtain ⟨rfl,hbc⟩:=hcut
  clear x0 x1 x2 x3 xl y2 yl
  have hBc:=keep_trans fB hbc
  have hsc:=hbc.size
  go_upto_if 27 with fail
  go_cut [8] from 28 to 32 (fun v wx=>∃(av:Option Addr) (cv:Nat) (pre:List (Value × List Int)),v = .slice av pre.length cv∧RowsI wx noB W0.heap.size (.slice av pre.length cv) pre∧pre.map Prod.snd=preL∧pre.length≤1∧Below W0.heap.size W0 wx)
  case first =>
   cases pb with
   | true =>
    have HPL:=Lib.hid (HPT.out HPB.out)
    have x0:wc.cell? ⟨w.heap.size,0,none⟩=some (.int .i64 cells):=q_cell (keepq hbc HQ0.out) 0
    have x1:wc.cell? ⟨w.heap.size,1,none⟩=some (.slice a n c):=q_cell (keepq hbc HQ0.out) 1
    have x2:wc.cell? ⟨w.heap.size,2,none⟩=some (.int .i64 sum):=q_cell (keepq hbc HQ0.out) 2
    have x3:wc.cell? ⟨w.heap.size,3,none⟩=some (.slice a' n' c'):=q_cell (keepq hbc HQ0.out) 3
    have xl:=q_lt (keepq hbc HQ0.out)
    go_wp2_with fail
    refine (HPN.out wc hBc).mono ?_
    rintro _ w1 ⟨vp,rfl,hownp,hb1⟩
    obtain ⟨ap,cp,rfl⟩:=owns_shape hownp
    have hrn:RowsI (w1.alloc (.cells #[.slice ap n' cp] 25)) noB W0.heap.size (.slice none 0 0) []:=RowsI.nil _ _ _
    have hown2:=owns_base (base':=W0.heap.size) (hownp.alloc (.cells #[.slice ap n' cp] 25)) hsc
    have hs1:W0.heap.size≤(w1.alloc (.cells #[.slice ap n' cp] 25)).heap.size:=by have:=hb1.size;simp;omega
    clear x0 x1 x2 x3 xl hownp
    go_wp2_with (at_builtin;refine wpList_append_any _ rfl _ _ 22 rfl W0.heap.size 25 i2 (.slice none 0 0) 24 Tryz.underlying22 hi hz0 hz1 hz2 rfl _ _ _ rfl (World.ownsRow_nil _ _ _ _) hs1 _ _ _ [.slice ap n' cp] rfl rfl (.inl ⟨_,rfl,cell_one_new _ _ _⟩) (by simp[Value.oneCell']) (by unfold maxLen;omega) (by omega) ?_;intro v5 w5 hown5 hst5 hk5)
    go_meet
    have hr:=hrn.append (x:=(.slice ap n' cp,fillG g [])) (fun k e=>e.elim) (by rw[hft.out];exact hown2) (fun k _=>⟨fun e=>e,fun e=>by cases e⟩) hst5 hown5 hk5
    obtain ⟨a5,c5,rfl⟩:=owns_shape hown5
    exact ⟨a5,c5,[(.slice ap n' cp,fillG g [])],rfl,hr,by rw[HPL.out];rfl,by simp,keep_trans hbc ((keep_alloc hb1 _).trans (hst5.below (by have:=hb1.size;simp;omega) (fun k e=>by cases e)))⟩
   | false =>
    have HPL:=Lib.hid (HPF.out HPB.out)
    go_wp2_with fail
    go_meet
    exact ⟨none,0,[],rfl,RowsI.nil _ _ _,by rw[HPL.out];rfl,by simp,hbc⟩
  case rest =>
   obtain ⟨av0,cv0,pre0,rfl,hr0,hp0,hl0,hb0⟩:=hcut
   have hs0:=FSZ.out
   have hn256:g.length≤256:=by omega
   have hB9:(B:Int)≤1000000000000:=by omega
   clear hbc hBc hsc HPT HPF HPN HFN HO HPB
   go_wp2_with fail
   go_loopw [8,9,10] (fun v iv _ wr=>∃(k:Nat) (av:Option Addr) (cv:Nat) (ax9:Option Addr) (nx9 cx9:Nat) (P9:List Int) (t9:Int) (d9:Bool) (pre:List (Value × List Int)) (acc:List (List Int)),iv = .int .i64 k∧v = .slice av pre.length cv∧CtI ls sum g B (P,t,d) preL w.heap.size W0 k (.slice av pre.length cv) wr ax9 nx9 cx9 P9 t9 d9 pre acc) (fun _ iv _ _=>B - (intOf iv).toNat)
   case atStart =>
    refine ⟨0,av0,cv0,ax,nx,cx,P,t,d,pre0,[],rfl,rfl,⟨Nat.zero_le _,keepq hb0 HQ1.out,⟨⟨HPath.out.mono (keep_trans fB hb0),hcx⟩,fun b o hn e=>?_⟩,HOK.out,⟨ht0,by show t≤t+_;omega⟩,hr0,by omega,by rw[hp0];simp,by simp,Below.stays hb0 _,fun e=>absurd e (by omega),fun _=>rfl⟩⟩
    obtain ⟨b2,o2,e2,hl2,_⟩:=HPath.out.2 0 hn
    rw[e] at e2
    cases e2
    exact ⟨.inl hl2,fun e3=>by have:=(hr0.1.lt b e3).1;omega⟩
   case round =>
    obtain ⟨k,av,cv,ax9,nx9,cx9,P9,t9,d9,pre,acc,rfl,rfl,hI⟩:=hrel
    have hszr:=hI.st.size
    have hkB:=hI.hk
    by_cases hk:k<B
    ·have hki:(k:Int)<(B:Int):=by omega
     cases d9 with
     | true =>
      have hbl:=hI.path
      have HEND:=Lib.hid (hI.stop (.inr rfl))
      have HI:=Lib.hid hI
      have qy:=hI.q
      have qr:=hI.st.q HQ2.out (by omega)
      have y0:wr.cell? ⟨w.heap.size+1,0,none⟩=some (.slice ax9 nx9 cx9):=q_cell qy 0
      have y1:wr.cell? ⟨w.heap.size+1,1,none⟩=some (.int .i64 t9):=q_cell qy 1
      have y2:wr.cell? ⟨w.heap.size+1,2,none⟩=some (.bool true):=q_cell qy 2
      have yl:=q_lt qy
      have r0:wr.cell? ⟨w.heap.size+1+1,0,none⟩=some (.slice none 0 0):=q_cell qr 0
      have r1:wr.cell? ⟨w.heap.size+1+1,1,none⟩=some (.int .i64 0):=q_cell qr 1
      have r2:wr.cell? ⟨w.heap.size+1+1,2,none⟩=some (.bool false):=q_cell qr 2
      have rf0:=q_free qr 0
      have rf1:=q_free qr 1
      have rf2:=q_free qr 2
      have rl:=q_lt qr
      have QR:=Lib.hid qr
      clear hI hbl qy qr
      go_wp2_with fail
      have r:=q_set (i:=2) (q_set (i:=1) (q_set (i:=0) QR.out (.slice ax9 nx9 cx9)) (.int .i64 t9)) (.bool true)
      have z0:=q_cell r 0
      have z1:=q_cell r 1
      have z2:=q_cell r 2
      have hp9:=((HI.out.path.1.1.stays (Stays.setCell (S:=fun k=>k=w.heap.size+1+1) wr (p:=⟨w.heap.size+1+1,0,none⟩) rfl (.slice ax9 nx9 cx9)) (fun b o hn e e2=>by have:=(HI.out.path.2 b o hn e).1;omega)).stays (Stays.setCell (S:=fun k=>k=w.heap.size+1+1) _ (p:=⟨w.heap.size+1+1,1,none⟩) rfl (.int .i64 t9)) (fun b o hn e e2=>by have:=(HI.out.path.2 b o hn e).1;omega)).stays (Stays.setCell (S:=fun k=>k=w.heap.size+1+1) _ (p:=⟨w.heap.size+1+1,2,none⟩) rfl (.bool true)) (fun b o hn e e2=>by have:=(HI.out.path.2 b o hn e).1;omega)
      have hr9:=((HI.out.rows.setCell (b:=w.heap.size+1+1) (i:=0) (by omega) (.slice ax9 nx9 cx9)).setCell (b:=w.heap.size+1+1) (i:=1) (by omega) (.int .i64 t9)).setCell (b:=w.heap.size+1+1) (i:=2) (by omega) (.bool true)
      refine bodyPost_ret (v := .tuple #[.agg #[.slice ax9 nx9 cx9,.int .i64 t9,.bool true],.slice av pre.length cv]) ?_ rfl ?_
      ·simp[results,Tryz.f44,go_sem,z0,z1,z2]
      ·have hc9:=hc1.out
       rw[HEND.out.1] at hc9
       refine ⟨⟨ax9,nx9,cx9,.slice av pre.length cv,pre,by rw[hc9],by rw[hc9];exact hp9,HI.out.path.1.2,⟨owns_base (base':=w.heap.size) hr9.1 (by omega),hr9.2.1,fun x hx=>⟨owns_base (hr9.2.2 x hx).1 (by omega),(hr9.2.2 x hx).2⟩⟩,by rw[hc2.out];exact HEND.out.2.symm,by have:=HI.out.len;have:=HI.out.hk;omega,?_⟩,?_⟩
       ·intro hB0 hd0
        refine HI.out.loc ?_
        rcases Nat.eq_zero_or_pos k with e|e
        ·have:=HI.out.d0 e;rw[hd0] at this;cases this
        ·exact e
       ·exact (((fB.trans (HI.out.st.below fB.size (fun k e=>by omega))).setCell (p:=⟨w.heap.size+1+1,0,none⟩) (by show w.heap.size≤w.heap.size+1+1;omega) _).setCell (p:=⟨w.heap.size+1+1,1,none⟩) (by show w.heap.size≤w.heap.size+1+1;omega) _).setCell (p:=⟨w.heap.size+1+1,2,none⟩) (by show w.heap.size≤w.heap.size+1+1;omega) _
     | false =>
      have HI:=Lib.hid hI
      have hBr:Below w.heap.size w wr:=fB.trans (hI.st.below fB.size (fun k e=>by omega))
      have hST:=Lib.hid (step_c HG.out a n c a' n' c' ax9 nx9 cx9 P9 wr (H.out.mono hBr) (H'.out.mono hBr) hI.path.1.1 hI.path.1.2 (by have:=hI.ok.len;have:=hI.path.1.1.len;omega) (hI.ok.num hn256))
      have ht9:0≤t9∧t9≤t+k:=hI.t0
      have qx:=hI.st.q HQ0.out (by omega)
      have QX:=Lib.hid qx
      have QY:=Lib.hid hI.q
      have x0:wr.cell? ⟨w.heap.size,0,none⟩=some (.int .i64 cells):=q_cell qx 0
      have x1:wr.cell? ⟨w.heap.size,1,none⟩=some (.slice a n c):=q_cell qx 1
      have x2:wr.cell? ⟨w.heap.size,2,none⟩=some (.int .i64 sum):=q_cell qx 2
      have x3:wr.cell? ⟨w.heap.size,3,none⟩=some (.slice a' n' c'):=q_cell qx 3
      have xl:=q_lt qx
      have y0:wr.cell? ⟨w.heap.size+1,0,none⟩=some (.slice ax9 nx9 cx9):=q_cell QY.out 0
      have y1:wr.cell? ⟨w.heap.size+1,1,none⟩=some (.int .i64 t9):=q_cell QY.out 1
      have y2:wr.cell? ⟨w.heap.size+1,2,none⟩=some (.bool false):=q_cell QY.out 2
      have yl:=q_lt QY.out
      clear hI qx
      go_wp2_with fail
      refine hST.out.mono ?_
      rintro _ w2 ⟨v2,rfl,hown2,hb2⟩
      obtain ⟨a2,c2,rfl⟩:=owns_shape hown2
      have QX2:=Lib.hid (keepq hb2 QX.out)
      have QY2:=Lib.hid (keepq hb2 QY.out)
      have hB2:=keep_trans hBr hb2
      have hs2:=hb2.size
      clear x0 x1 x2 x3 xl y0 y1 y2 yl hST
      have y0:w2.cell? ⟨w.heap.size+1,0,none⟩=some (.slice ax9 nx9 cx9):=q_cell QY2.out 0
      have y1:w2.cell? ⟨w.heap.size+1,1,none⟩=some (.int .i64 t9):=q_cell QY2.out 1
      have y2:w2.cell? ⟨w.heap.size+1,2,none⟩=some (.bool false):=q_cell QY2.out 2
      have yf0:=q_free QY2.out 0
      have yf1:=q_free QY2.out 1
      have yf2:=q_free QY2.out 2
      have yl:=q_lt QY2.out
      cases hs:stpR ls sum g P9 with
      | none =>
       have HGO:=Lib.hid (goR_none (t:=t9) hk hs)
       rw[hs] at hown2
       simp only[Option.getD_none,List.length_nil,List.map_nil] at hown2 ⊢
       have hs3:=store3 (x0 := .slice none 0 0) (x1 := .int .i64 t9) (x2 := .bool true) QY2.out
       have HS3:=Lib.hid hs3
       clear hown2 hs3 hs
       go_wp2_with fail
       go_roundw
       case rel =>
        have hI:=HI.out
        exact ⟨k+1,av,cv,none,0,0,[],t9,true,pre,acc,by go_num,rfl,⟨by omega,HS3.out.1,PathC.nil _ _ _ _,OkG.nil g,⟨ht9.1,by show t9≤t+_;omega⟩,(hI.rows.below hb2).at HS3.out.2 (by omega),by have:=hI.len;omega,hI.all,by rw[hI.go,HGO.out],(hI.st.trans (Below.stays hb2 (fun b=>b=w.heap.size+1)) (fun _ e => .inl e)).trans HS3.out.2 (fun _ e => .inl e),fun _ b o h0=>absurd h0 (by omega),fun e=>absurd e (by omega)⟩⟩
       case measure=>simp[intOf];omega
      | some P' =>
       have HGO:=Lib.hid (goR_some (t:=t9) hk hs)
       have hne:=stpR_ne hs
       have hok2:=Lib.hid (stpR_ok HG.out HI.out.ok hs)
       have hpl:P'.length≤256:=by have:=hok2.out.len;have:=openTo_len g g.length;unfold openL at *;omega
       have m0:((P'.length:Int)==0)=false:=by
        rw[beq_eq_false_iff_ne]
        intro e
        exact hne (List.eq_nil_of_length_eq_zero (by omega))
       rw[hs] at hown2
       simp only[Option.getD_some] at hown2 ⊢
       have hpc:PathC w2 w.heap.size W0.heap.size (.slice av pre.length cv) a2 P'.length c2 P':=PathC.fresh hown2 (by omega) hszr (fun k e=>(HI.out.rows.1.lt k e).2)
       have hs3:=store3 (x0 := .slice a2 P'.length c2) (x1 := .int .i64 (t9+1)) (x2 := .bool false) QY2.out
       have hlo:∀b o,0<P'.length→a2=some ⟨b,o,none⟩→w.heap.size≤b:=fun b o h0 e=>by
        subst e
        have:=(hown2.lt b rfl).1
        have:=hBr.size
        omega
       have HLO:=Lib.hid hlo
       have hrw:=HI.out.rows.below hb2
       have hst2:=(HI.out.st.trans (Below.stays hb2 (fun b=>b=w.heap.size+1)) (fun _ e => .inl e))
       have HR3:=Lib.hid (hrw.at hs3.2 (by omega))
       have HP3:=Lib.hid (hpc.at hs3.2 (by omega) (by omega))
       have HT3:=Lib.hid (hst2.trans hs3.2 (fun _ e => .inl e))
       have QX3:=Lib.hid (hs3.2.q QX2.out (by omega))
       have QY3:=Lib.hid hs3.1
       have ht2:t9+1≤9000000000000000000:=by omega
       have ht3:0≤t9+1:=by omega
       clear hs hne hown2 hpc hs3 hlo hrw hst2
       go_upto_region 11 with fail
       clear y0 y1 y2 yf0 yf1 yf2 yl
       generalize (((w2.setCell ⟨w.heap.size+1,0,none⟩ (.slice a2 P'.length c2)).setCell ⟨w.heap.size+1,1,none⟩ (.int .i64 (t9+1))).setCell ⟨w.heap.size+1,2,none⟩ (.bool false))=W3 at HR3 HP3 HT3 QX3 QY3 ⊢
       have hs3:=HT3.out.size
       have hB3:Below w.heap.size w W3:=fB.trans (HT3.out.below fB.size (fun k e=>by omega))
       have HFO:=Lib.hid (rfound_c HG.out a n c a' n' c' a2 P'.length c2 P' W3 (H.out.mono hB3) (H'.out.mono hB3) HP3.out.1.1 hok2.out.len (hok2.out.num hn256))
       have x0:W3.cell? ⟨w.heap.size,0,none⟩=some (.int .i64 cells):=q_cell QX3.out 0
       have x1:W3.cell? ⟨w.heap.size,1,none⟩=some (.slice a n c):=q_cell QX3.out 1
       have x2:W3.cell? ⟨w.heap.size,2,none⟩=some (.int .i64 sum):=q_cell QX3.out 2
       have x3:W3.cell? ⟨w.heap.size,3,none⟩=some (.slice a' n' c'):=q_cell QX3.out 3
       have xl:=q_lt QX3.out
       obtain ⟨fv,hfv⟩:∃fv,foundR ls sum g P'=fv:=⟨_,rfl⟩
       rw[hfv] at HFO HGO
       clear hfv
       go_wp2_with fail
       refine HFO.out.mono ?_
       rintro _ w4 ⟨rfl,hb4⟩
       have hB4:=keep_trans hB3 hb4
       have hs4:=hb4.size
       have QX4:=Lib.hid (keepq hb4 QX3.out)
       clear x0 x1 x2 x3 xl HFO
       cases fv with
       | false =>
        go_wp2_with fail
        go_roundw
        case rel =>
         have hI:=HI.out
         exact ⟨k+1,av,cv,a2,P'.length,c2,P',t9+1,false,pre,acc,by go_num,rfl,⟨by omega,keepq hb4 QY3.out,HP3.out.below hb4,hok2.out,⟨ht3,by show t9+1≤t+_;omega⟩,HR3.out.below hb4,by have:=hI.len;omega,hI.all,by rw[hI.go,HGO.out];simp,HT3.out.trans (Below.stays hb4 (fun b=>b=w.heap.size+1)) (fun _ e => .inl e),fun _=>HLO.out,fun e=>absurd e (by omega)⟩⟩
        case measure=>simp[intOf];omega
       | true =>
        have HPP:=Lib.hid (placed_c (.slice a n c) cells sum a' n' c' g a2 P'.length c2 P' w4 (H'.out.mono hB4) hn0 hn1 (HP3.out.1.1.mono hb4) hok2.out.len)
        have hfl:Hid ((fillG g P').length=n'):=by unfold Hid;rw[fillG_len];exact hgl
        have x0:w4.cell? ⟨w.heap.size,0,none⟩=some (.int .i64 cells):=q_cell QX4.out 0
        have x1:w4.cell? ⟨w.heap.size,1,none⟩=some (.slice a n c):=q_cell QX4.out 1
        have x2:w4.cell? ⟨w.heap.size,2,none⟩=some (.int .i64 sum):=q_cell QX4.out 2
        have x3:w4.cell? ⟨w.heap.size,3,none⟩=some (.slice a' n' c'):=q_cell QX4.out 3
        have xl:=q_lt QX4.out
        go_wp2_with fail
        refine HPP.out.mono ?_
        rintro _ w5 ⟨v5,rfl,hown5,hb5⟩
        obtain ⟨a5,c5,rfl⟩:=owns_shape hown5
        have hs5:=hb5.size
        have hb45:=keep_trans hb4 hb5
        have hr5:=(HR3.out.below hb45).below ((Below.refl _ w5).alloc (Nat.le_refl _) (.cells #[.slice a5 n' c5] 25))
        have hown6:=owns_base (base':=W0.heap.size) (hown5.alloc (.cells #[.slice a5 n' c5] 25)) (by omega)
        have hs6:W0.heap.size≤(w5.alloc (.cells #[.slice a5 n' c5] 25)).heap.size:=by simp;omega
        have hpl9:pre.length≤1000000000001:=by have:=HI.out.len;omega
        have hne5:∀k,(Value.slice a5 n' c5).ownBlock=some k→¬noB k∧(Value.slice av pre.length cv).ownBlock≠some k:=fun k e=>⟨fun e2=>e2,fun e2=>by have h1:=(hown5.lt k e).1;have h2:=(HR3.out.1.lt k e2).2;omega⟩
        have HNE:=Lib.hid hne5
        clear x0 x1 x2 x3 xl hown5 HPP hne5
        go_wp2_with (at_builtin;refine wpList_append_any _ rfl _ _ 22 rfl W0.heap.size 25 i2 (.slice none 0 0) 24 Tryz.underlying22 hi hz0 hz1 hz2 rfl _ _ _ rfl hr5.1 hs6 _ _ _ [.slice a5 n' c5] rfl rfl (.inl ⟨_,rfl,cell_one_new _ _ _⟩) (by simp[Value.oneCell']) (by unfold maxLen;omega) (by omega) ?_;intro v7 w7 hown7 hst7 hk7)
        obtain ⟨a7,c7,rfl⟩:=owns_shape hown7
        go_roundw
        case rel =>
         have hI:=HI.out
         have hr7:=hr5.append (x:=(.slice a5 n' c5,fillG g P')) (fun k e=>e.elim) (by rw[hfl.out];exact hown6) HNE.out hst7 hown7 hk7
         have hv:∀k,(Value.slice av pre.length cv).ownBlock=some k→w.heap.size+1<k:=fun k e=>by have:=(HR3.out.1.lt k e).1;omega
         have hA:Below W3.heap.size W3 (w5.alloc (.cells #[.slice a5 n' c5] 25)):=keep_alloc hb45 _
         have hP7:=(HP3.out.below hA).grow hst7 hk7
         refine ⟨k+1,a7,c7,a2,P'.length,c2,P',t9+1,false,pre++[(.slice a5 n' c5,fillG g P')],acc++[fillG g P'],by go_num,by simp,⟨by omega,hst7.q (keepq hA QY3.out) (fun e=>by have:=hv _ e;omega),?_,hok2.out,⟨ht3,by show t9+1≤t+_;omega⟩,?_,by have:=hI.len;simp;omega,by rw[List.map_append,hI.all,List.append_assoc];rfl,by rw[hI.go,HGO.out];simp,?_,fun _=>HLO.out,fun e=>absurd e (by omega)⟩⟩
         ·simpa using hP7
         ·simpa using hr7
         ·refine (HT3.out.trans (Below.stays hA (fun b=>b=w.heap.size+1)) (fun _ e => .inl e)).trans hst7 (fun i e => .inr ?_)
          have:=(HR3.out.1.lt i e).1
          omega
        case measure=>simp[intOf];omega
    ·have hki:¬(k:Int)<(B:Int):=by omega
     cases d9 with
     | true =>
      have hbl:=hI.path
      have HEND:=Lib.hid (hI.stop (.inr rfl))
      have HI:=Lib.hid hI
      have qy:=hI.q
      have qr:=hI.st.q HQ2.out (by omega)
      have y0:wr.cell? ⟨w.heap.size+1,0,none⟩=some (.slice ax9 nx9 cx9):=q_cell qy 0
      have y1:wr.cell? ⟨w.heap.size+1,1,none⟩=some (.int .i64 t9):=q_cell qy 1
      have y2:wr.cell? ⟨w.heap.size+1,2,none⟩=some (.bool true):=q_cell qy 2
      have yl:=q_lt qy
      have r0:wr.cell? ⟨w.heap.size+1+1,0,none⟩=some (.slice none 0 0):=q_cell qr 0
      have r1:wr.cell? ⟨w.heap.size+1+1,1,none⟩=some (.int .i64 0):=q_cell qr 1
      have r2:wr.cell? ⟨w.heap.size+1+1,2,none⟩=some (.bool false):=q_cell qr 2
      have rf0:=q_free qr 0
      have rf1:=q_free qr 1
      have rf2:=q_free qr 2
      have rl:=q_lt qr
      have QR:=Lib.hid qr
      clear hI hbl qy qr
      go_wp2_with fail
      have r:=q_set (i:=2) (q_set (i:=1) (q_set (i:=0) QR.out (.slice ax9 nx9 cx9)) (.int .i64 t9)) (.bool true)
      have z0:=q_cell r 0
      have z1:=q_cell r 1
      have z2:=q_cell r 2
      have hp9:=((HI.out.path.1.1.stays (Stays.setCell (S:=fun k=>k=w.heap.size+1+1) wr (p:=⟨w.heap.size+1+1,0,none⟩) rfl (.slice ax9 nx9 cx9)) (fun b o hn e e2=>by have:=(HI.out.path.2 b o hn e).1;omega)).stays (Stays.setCell (S:=fun k=>k=w.heap.size+1+1) _ (p:=⟨w.heap.size+1+1,1,none⟩) rfl (.int .i64 t9)) (fun b o hn e e2=>by have:=(HI.out.path.2 b o hn e).1;omega)).stays (Stays.setCell (S:=fun k=>k=w.heap.size+1+1) _ (p:=⟨w.heap.size+1+1,2,none⟩) rfl (.bool true)) (fun b o hn e e2=>by have:=(HI.out.path.2 b o hn e).1;omega)
      have hr9:=((HI.out.rows.setCell (b:=w.heap.size+1+1) (i:=0) (by omega) (.slice ax9 nx9 cx9)).setCell (b:=w.heap.size+1+1) (i:=1) (by omega) (.int .i64 t9)).setCell (b:=w.heap.size+1+1) (i:=2) (by omega) (.bool true)
      refine bodyPost_ret (v := .tuple #[.agg #[.slice ax9 nx9 cx9,.int .i64 t9,.bool true],.slice av pre.length cv]) ?_ rfl ?_
      ·simp[results,Tryz.f44,go_sem,z0,z1,z2]
      ·have hc9:=hc1.out
       rw[HEND.out.1] at hc9
       refine ⟨⟨ax9,nx9,cx9,.slice av pre.length cv,pre,by rw[hc9],by rw[hc9];exact hp9,HI.out.path.1.2,⟨owns_base (base':=w.heap.size) hr9.1 (by omega),hr9.2.1,fun x hx=>⟨owns_base (hr9.2.2 x hx).1 (by omega),(hr9.2.2 x hx).2⟩⟩,by rw[hc2.out];exact HEND.out.2.symm,by have:=HI.out.len;have:=HI.out.hk;omega,?_⟩,?_⟩
       ·intro hB0 hd0
        refine HI.out.loc ?_
        omega
       ·exact (((fB.trans (HI.out.st.below fB.size (fun k e=>by omega))).setCell (p:=⟨w.heap.size+1+1,0,none⟩) (by show w.heap.size≤w.heap.size+1+1;omega) _).setCell (p:=⟨w.heap.size+1+1,1,none⟩) (by show w.heap.size≤w.heap.size+1+1;omega) _).setCell (p:=⟨w.heap.size+1+1,2,none⟩) (by show w.heap.size≤w.heap.size+1+1;omega) _
     | false =>
      have hbl:=hI.path
      have HEND:=Lib.hid (hI.stop (.inl (by omega)))
      have HI:=Lib.hid hI
      have qy:=hI.q
      have qr:=hI.st.q HQ2.out (by omega)
      have y0:wr.cell? ⟨w.heap.size+1,0,none⟩=some (.slice ax9 nx9 cx9):=q_cell qy 0
      have y1:wr.cell? ⟨w.heap.size+1,1,none⟩=some (.int .i64 t9):=q_cell qy 1
      have y2:wr.cell? ⟨w.heap.size+1,2,none⟩=some (.bool false):=q_cell qy 2
      have yl:=q_lt qy
      have r0:wr.cell? ⟨w.heap.size+1+1,0,none⟩=some (.slice none 0 0):=q_cell qr 0
      have r1:wr.cell? ⟨w.heap.size+1+1,1,none⟩=some (.int .i64 0):=q_cell qr 1
      have r2:wr.cell? ⟨w.heap.size+1+1,2,none⟩=some (.bool false):=q_cell qr 2
      have rf0:=q_free qr 0
      have rf1:=q_free qr 1
      have rf2:=q_free qr 2
      have rl:=q_lt qr
      have QR:=Lib.hid qr
      clear hI hbl qy qr
      go_wp2_with fail
      have r:=q_set (i:=2) (q_set (i:=1) (q_set (i:=0) QR.out (.slice ax9 nx9 cx9)) (.int .i64 t9)) (.bool false)
      have z0:=q_cell r 0
      have z1:=q_cell r 1
      have z2:=q_cell r 2
      have hp9:=((HI.out.path.1.1.stays (Stays.setCell (S:=fun k=>k=w.heap.size+1+1) wr (p:=⟨w.heap.size+1+1,0,none⟩) rfl (.slice ax9 nx9 cx9)) (fun b o hn e e2=>by have:=(HI.out.path.2 b o hn e).1;omega)).stays (Stays.setCell (S:=fun k=>k=w.heap.size+1+1) _ (p:=⟨w.heap.size+1+1,1,none⟩) rfl (.int .i64 t9)) (fun b o hn e e2=>by have:=(HI.out.path.2 b o hn e).1;omega)).stays (Stays.setCell (S:=fun k=>k=w.heap.size+1+1) _ (p:=⟨w.heap.size+1+1,2,none⟩) rfl (.bool false)) (fun b o hn e e2=>by have:=(HI.out.path.2 b o hn e).1;omega)
      have hr9:=((HI.out.rows.setCell (b:=w.heap.size+1+1) (i:=0) (by omega) (.slice ax9 nx9 cx9)).setCell (b:=w.heap.size+1+1) (i:=1) (by omega) (.int .i64 t9)).setCell (b:=w.heap.size+1+1) (i:=2) (by omega) (.bool false)
      refine bodyPost_ret (v := .tuple #[.agg #[.slice ax9 nx9 cx9,.int .i64 t9,.bool false],.slice av pre.length cv]) ?_ rfl ?_
      ·simp[results,Tryz.f44,go_sem,z0,z1,z2]
      ·have hc9:=hc1.out
       rw[HEND.out.1] at hc9
       refine ⟨⟨ax9,nx9,cx9,.slice av pre.length cv,pre,by rw[hc9],by rw[hc9];exact hp9,HI.out.path.1.2,⟨owns_base (base':=w.heap.size) hr9.1 (by omega),hr9.2.1,fun x hx=>⟨owns_base (hr9.2.2 x hx).1 (by omega),(hr9.2.2 x hx).2⟩⟩,by rw[hc2.out];exact HEND.out.2.symm,by have:=HI.out.len;have:=HI.out.hk;omega,?_⟩,?_⟩
       ·intro hB0 hd0
        refine HI.out.loc ?_
        omega
       ·exact (((fB.trans (HI.out.st.below fB.size (fun k e=>by omega))).setCell (p:=⟨w.heap.size+1+1,0,none⟩) (by show w.heap.size≤w.heap.size+1+1;omega) _).setCell (p:=⟨w.heap.size+1+1,1,none⟩) (by show w.heap.size≤w.heap.size+1+1;omega) _).setCell (p:=⟨w.heap.size+1+1,2,none⟩) (by show w.heap.size≤w.heap.size+1+1;omega) _
end
section
open Go Go.RowKit
theorem stpR_val {cells:Int} {ls:List (List Int)} {sum:Int} {g:List Int} (G:GoodTask cells ls sum g) {P P':List Int} (ho:OkG g P) (h:stpR ls sum g P=some P'):val (openL g).length P<val (openL g).length P':=by
 have ho2:OkP (gC cells ls sum g) P:=⟨ho.1,ho.2,ho.3⟩
 have hg:=G.len
 have hc:=G.cells2
 have hz:∀z,z∈P→z≤256:=fun z hz=>(ho.num (by omega) z hz).2
 unfold stpR at h
 split at h
 ·rename_i hd
  cases h
  have hne:P.length≠(openL g).length:=by
   unfold deadR at hd
   simp only[Bool.or_eq_false_iff,beq_eq_false_iff_ne] at hd
   exact hd.1
  have hl:P.length<(openL g).length:=by have:=ho.len;omega
  have ha0:0<aboveM (maskL (leftL (gC cells ls sum g) P)) 0:=above_first (gC_even G) (gC_fine G) (P:=P) hl
  have ha:0<aboveR g P 0:=ha0
  exact val_snoc _ _ _ hl (by omega)
 ·have:=backP_val (C:=plC [] 0 g) (openL g).length P.reverse [] P' (by simpa using ho.len) (by simpa using hz) h
  simpa using this
theorem okG_val {cells:Int} {ls:List (List Int)} {sum:Int} {g:List Int} (G:GoodTask cells ls sum g) {P:List Int} (ho:OkG g P):val (openL g).length P<257 ^ (openL g).length :=
 val_lt _ _ fun z hz=>(ho.num (by have:=G.len;have:=G.cells2;omega) z hz).2
def restR (ls:List (List Int)) (sum:Int) (g:List Int) (most:Int):Nat→Sta→List (List Int)→List (List Int)
 | 0,_,acc=>acc
 | f+1,s,acc=>if s.2.2=true∨most≤(acc.length:Int) then acc else restR ls sum g most f (contR ls sum g 1 s).1 (acc++(contR ls sum g 1 s).2)
theorem restR_end {ls:List (List Int)} {sum:Int} {g:List Int} {most:Int} {f:Nat} {s:Sta} {acc:List (List Int)} (h:s.2.2=true∨most≤(acc.length:Int)):restR ls sum g most f s acc=acc:=by
 cases f with
 | zero=>rfl
 | succ f=>simp only[restR];rw[if_pos h]
theorem restR_go {ls:List (List Int)} {sum:Int} {g:List Int} {most:Int} {F k:Nat} {s:Sta} {acc:List (List Int)} (hk:k<F) (hd:s.2.2=false) (hm:(acc.length:Int)<most):restR ls sum g most (F - k) s acc=restR ls sum g most (F - (k+1)) (contR ls sum g 1 s).1 (acc++(contR ls sum g 1 s).2):=by
 obtain ⟨m,e⟩:∃m,F - k=m+1:=⟨F - k - 1,by omega⟩
 rw[e,show F - (k+1)=m from by omega]
 simp only[restR]
 rw[if_neg]
 rintro (h|h)
 ·rw[hd] at h;cases h
 ·omega
theorem contR_one_none {ls:List (List Int)} {sum:Int} {g P:List Int} {t:Int} (h:stpR ls sum g P=none):(contR ls sum g 1 (P,t,false)).1=([],t,true):=by
 unfold contR
 simp only[goR]
 rw[if_neg (by decide),h]
theorem contR_one_some {ls:List (List Int)} {sum:Int} {g P P':List Int} {t:Int} (h:stpR ls sum g P=some P'):(contR ls sum g 1 (P,t,false)).1=(P',t+1,false):=by
 unfold contR
 simp only[goR]
 rw[if_neg (by decide),h]
theorem owns_src {W:World} {B:Nat} {e:TypeId} {a:Option Addr} {n c m:Nat} {xs:List Value} (h:W.ownsRow B e 1 (.slice a n c) m xs):SrcOk W a n xs∧n=m:=by
 rcases h.2 with ⟨e2,e3⟩|⟨g,cap,cur,e2,_,_,_,_,_,_⟩
 ·simp only[Value.slice.injEq] at e2
  exact ⟨.inr ⟨e2.1,e2.2.1⟩,by omega⟩
 ·simp only[Value.slice.injEq] at e2
  obtain ⟨rfl,rfl,rfl⟩:=e2
  exact ⟨.inl ⟨_,rfl,h.cells (g:=g) rfl⟩,rfl⟩
theorem RowsI.more {W W2:World} {L:Nat} {v v':Value} {pre preM:List (Value × List Int)} (h:RowsI W noB L v pre) (hm:∀x,x∈preM→W.ownsRow L 3 1 x.1 x.2.length (x.2.map (Value.int .i64))∧∀k,x.1.ownBlock=some k→v.ownBlock≠some k)
  (hs:Stays (fun k=>v.ownBlock=some k) W W2) (hown:W2.ownsRow L 25 1 v' (pre.length+preM.length) (pre.map Prod.fst++preM.map Prod.fst)) (hnew:∀k,v'.ownBlock=some k→v.ownBlock=some k∨W.heap.size≤k):RowsI W2 noB L v' (pre++preM):=by
 have hold:∀y,y∈pre++preM→W.ownsRow L 3 1 y.1 y.2.length (y.2.map (Value.int .i64))∧∀k,y.1.ownBlock=some k→v.ownBlock≠some k:=by
  intro y hy
  rcases List.mem_append.1 hy with hy|hy
  ·exact ⟨(h.2.2 y hy).1,fun k e=>((h.2.2 y hy).2 k e).2⟩
  ·exact hm y hy
 refine ⟨by rw[List.length_append,List.map_append];exact hown,fun k _ e=>e,fun y hy=>⟨owns_keep (hold y hy).1 (fun k e hlt=>hs.block k hlt ((hold y hy).2 k e)),fun k e=>⟨fun e=>e,fun e2=>?_⟩⟩⟩
 rcases hnew k e2 with e3|e3
 ·exact (hold y hy).2 k e e3
 ·have:=((hold y hy).1.lt _ e).2
  omega
theorem rows_one {pre:List (Value × List Int)} {W:World} {L:Nat} {v:Value} {M:Nat→Prop} (h:RowsI W M L v pre):∀u∈pre.map Prod.fst,u.oneCell'=true:=by
 intro u hu
 obtain ⟨x,hx,rfl⟩:=List.mem_map.1 hu
 obtain ⟨a,c,e⟩:=owns_shape (h.2.2 x hx).1
 rw[e];rfl
end
section
open Go Go.RowKit
attribute [local go_sem] over_cell
attribute [local go_sem] Oper.semAt_some
structure RtI (ls:List (List Int)) (sum:Int) (g:List Int) (most:Int) (F:Nat) (s0:Sta) (L0:Nat) (W0:World) (k:Nat) (v:Value) (wr:World) (ax:Option Addr) (nx cx:Nat) (P:List Int) (t:Int) (d:Bool) (pre:List (Value × List Int)):Prop where
 hk:k≤F
 q:wr.heap[L0+1]?=some (.cells #[.slice ax nx cx,.int .i64 t,.bool d] 76 (0,0))
 path:PathC wr L0 W0.heap.size v ax nx cx P
 ok:OkG g P
 t0:0≤t∧t≤s0.2.1+k
 val:d=false→k≤Go.Proofs.YtcblpobiefmjmaaGreat.val (openL g).length P
 rows:RowsI wr noB W0.heap.size v pre
 len:(pre.length:Int)≤most+1
 go:restR ls sum g most F s0 []=restR ls sum g most (F - k) (P,t,d) (pre.map Prod.snd)
 st:Stays (fun b=>b=L0+1) W0 wr
def RestOut (L0:Nat) (R:List (List Int)) (most:Int) (e:Ending) (w':World):Prop :=
 ∃vf pre,e = .returned vf∧RowsI w' noB L0 vf pre∧pre.map Prod.snd=R∧(pre.length:Int)≤most+1
theorem rrest_c {cells:Int} {ls:List (List Int)} {sum:Int} {g:List Int} (G:GoodTask cells ls sum g) (a:Option Addr) (n c:Nat) (a':Option Addr) (n' c':Nat) (ax:Option Addr) (nx cx:Nat) (P:List Int) (t:Int) (d:Bool) (most:Int) (F:Nat) (w:World) (h:RC w a n ls) (h':IC w a' n' g) (hP:IC w ax nx P) (hcx:nx≤cx) (ho:OkG g P) (ht0:0≤t) (hF:F=257 ^ (openL g).length) (ht1:t+F≤8000000000000000000) (hm0:0≤most) (hm1:most≤1000000000) :
  Calls Tryz.prog 43 #[.agg #[.int .i64 cells,.slice a n c,.int .i64 sum,.slice a' n' c'],.agg #[.slice ax nx cx,.int .i64 t,.bool d],.int .i64 most] w fun e w'=>RestOut w.heap.size (restR ls sum g most F (P,t,d) []) most e w'∧Below w.heap.size w w':=by
 obtain ⟨i2,hi,hz0,hz1,hz2⟩:=info_parts infoRow
 have hgl:=h'.len
 have hn1:n'≤256:=by have:=G.len;have:=G.cells2;omega
 have H:=Lib.hid h
 have H':=Lib.hid h'
 have HG:=Lib.hid G
 have HPath:=Lib.hid hP
 have HOK:=Lib.hid ho
 have HVL:Hid (∀P',OkG g P'→val (openL g).length P'<F):=fun P' hp=>by rw[hF];exact okG_val G hp
 obtain ⟨R,hR⟩:∃R,restR ls sum g most F (P,t,d) []=R:=⟨_,rfl⟩
 rw[hR]
 have HR:=Lib.hid hR
 clear h h' hP ho G hR hF
 go_enter Tryz.func43,Tryz.ntmps43
 go_upto_region 1 with fail
 have fsz:((w.alloc (.cells #[.int .i64 cells,.slice a n c,.int .i64 sum,.slice a' n' c'] 28)).alloc (.cells #[.slice ax nx cx,.int .i64 t,.bool d] 76)).heap.size=w.heap.size+2:=by simp only[World.size_alloc] <;> omega
 have fB:Below w.heap.size w ((w.alloc (.cells #[.int .i64 cells,.slice a n c,.int .i64 sum,.slice a' n' c'] 28)).alloc (.cells #[.slice ax nx cx,.int .i64 t,.bool d] 76)):=((Below.refl _ _).alloc (Nat.le_refl _) _).alloc (by simp only[World.size_alloc];omega) _
 have fq0:((w.alloc (.cells #[.int .i64 cells,.slice a n c,.int .i64 sum,.slice a' n' c'] 28)).alloc (.cells #[.slice ax nx cx,.int .i64 t,.bool d] 76)).heap[w.heap.size]?=some (.cells #[.int .i64 cells,.slice a n c,.int .i64 sum,.slice a' n' c'] 28 (0,0)):=by have h:=World.alloc_heap_new w (.cells #[.int .i64 cells,.slice a n c,.int .i64 sum,.slice a' n' c'] 28);exact (Below.heap_alloc _ _ _ (by simp only[World.size_alloc];omega)).trans (h)
 have fq1:((w.alloc (.cells #[.int .i64 cells,.slice a n c,.int .i64 sum,.slice a' n' c'] 28)).alloc (.cells #[.slice ax nx cx,.int .i64 t,.bool d] 76)).heap[w.heap.size+1]?=some (.cells #[.slice ax nx cx,.int .i64 t,.bool d] 76 (0,0)):=by have h:=World.alloc_heap_new (w.alloc (.cells #[.int .i64 cells,.slice a n c,.int .i64 sum,.slice a' n' c'] 28)) (.cells #[.slice ax nx cx,.int .i64 t,.bool d] 76);simp only[World.size_alloc] at h;exact h
 generalize ((w.alloc (.cells #[.int .i64 cells,.slice a n c,.int .i64 sum,.slice a' n' c'] 28)).alloc (.cells #[.slice ax nx cx,.int .i64 t,.bool d] 76))=W0 at fsz fB fq0 fq1 ⊢
 have HQ0:=Lib.hid fq0
 have HQ1:=Lib.hid fq1
 have hs0:W0.heap.size=w.heap.size+2:=fsz
 clear fq0 fq1 fsz
 go_wp2_with fail
 go_loopg [7,8,9] F (fun gk v _ _ wr=>∃(k:Nat) (av:Option Addr) (cv:Nat) (ax9:Option Addr) (nx9 cx9:Nat) (P9:List Int) (t9:Int) (d9:Bool) (pre:List (Value × List Int)),gk=F - k∧v = .slice av pre.length cv∧RtI ls sum g most F (P,t,d) w.heap.size W0 k (.slice av pre.length cv) wr ax9 nx9 cx9 P9 t9 d9 pre)
 case atStart =>
  refine ⟨0,none,0,ax,nx,cx,P,t,d,[],by omega,rfl,⟨Nat.zero_le _,HQ1.out,⟨⟨HPath.out.mono fB,hcx⟩,fun b o hn e=>?_⟩,HOK.out,⟨ht0,by show t≤t+_;omega⟩,fun _=>Nat.zero_le _,RowsI.nil _ _ _,by simp;omega,rfl,Stays.refl _ _⟩⟩
  obtain ⟨b2,o2,e2,hl2,_⟩:=HPath.out.2 0 hn
  rw[e] at e2
  cases e2
  exact ⟨.inl hl2,fun e3=>by cases e3⟩
 case round =>
  obtain ⟨k,av,cv,ax9,nx9,cx9,P9,t9,d9,pre,rfl,rfl,hI⟩:=hrel
  have hszr:=hI.st.size
  have HI:=Lib.hid hI
  have QY:=Lib.hid hI.q
  have y0:wr.cell? ⟨w.heap.size+1,0,none⟩=some (.slice ax9 nx9 cx9):=q_cell QY.out 0
  have y1:wr.cell? ⟨w.heap.size+1,1,none⟩=some (.int .i64 t9):=q_cell QY.out 1
  have y2:wr.cell? ⟨w.heap.size+1,2,none⟩=some (.bool d9):=q_cell QY.out 2
  have yl:=q_lt QY.out
  have hBr:Below w.heap.size w wr:=fB.trans (hI.st.below fB.size (fun k e=>by omega))
  have HFIN:Hid ((d9=true∨most≤(pre.length:Int))→RestOut w.heap.size R most (.returned (.slice av pre.length cv)) wr):=fun hstop=>by
   have hI:=HI.out
   refine ⟨_,pre,rfl,⟨owns_base (base':=w.heap.size) hI.rows.1 (by omega),hI.rows.2.1,fun x hx=>⟨owns_base (hI.rows.2.2 x hx).1 (by omega),(hI.rows.2.2 x hx).2⟩⟩,?_,hI.len⟩
   rw[← HR.out,hI.go,restR_end (by simpa using hstop)]
  cases d9 with
  | true =>
   clear hI
   go_wp2_with fail
   go_ret
   exact ⟨HFIN.out (.inl trivial),hBr⟩
  | false =>
   by_cases hm:(pre.length:Int)<most
   ·have hkF:k<F:=by have:=hI.val rfl;have:=HVL.out P9 hI.ok;omega
    have ht9:0≤t9∧t9≤t+k:=hI.t0
    have hcont:=rcont_c HG.out a n c a' n' c' ax9 nx9 cx9 P9 t9 false 1 wr (H.out.mono hBr) (H'.out.mono hBr) hI.path.1.1 hI.path.1.2 hI.ok ht9.1 (by omega) (by omega)
    have hgo:=restR_go (ls:=ls) (sum:=sum) (g:=g) (most:=most) (F:=F) (k:=k) (s:=(P9,t9,false)) (acc:=pre.map Prod.snd) hkF rfl (by simpa using hm)
    have hnew:OkG g (contR ls sum g 1 (P9,t9,false)).1.1∧0≤(contR ls sum g 1 (P9,t9,false)).1.2.1∧(contR ls sum g 1 (P9,t9,false)).1.2.1≤t+(k+1:Nat)∧((contR ls sum g 1 (P9,t9,false)).1.2.2=false→k+1≤val (openL g).length (contR ls sum g 1 (P9,t9,false)).1.1):=by
     cases hs:stpR ls sum g P9 with
     | none =>
      rw[contR_one_none hs]
      exact ⟨OkG.nil g,ht9.1,by show t9≤_;omega,fun e=>by cases e⟩
     | some P' =>
      rw[contR_one_some hs]
      refine ⟨stpR_ok HG.out hI.ok hs,by show 0≤t9+1;omega,by show t9+1≤_;omega,fun _=>?_⟩
      have h1:=stpR_val HG.out hI.ok hs
      have h2:=hI.val rfl
      show k+1≤val (openL g).length P'
      omega
    obtain ⟨⟨⟨P1,t1,d1⟩,M1⟩,hC1⟩:∃C1,contR ls sum g 1 (P9,t9,false)=C1:=⟨_,rfl⟩
    rw[hC1] at hcont hgo hnew
    have HCO:=Lib.hid hcont
    have HGO:=Lib.hid hgo
    have HNW:=Lib.hid hnew
    have hpl9:pre.length≤1000000001:=by have:=hI.len;omega
    have qx:=hI.st.q HQ0.out (by omega)
    have QX:=Lib.hid qx
    have x0:wr.cell? ⟨w.heap.size,0,none⟩=some (.int .i64 cells):=q_cell qx 0
    have x1:wr.cell? ⟨w.heap.size,1,none⟩=some (.slice a n c):=q_cell qx 1
    have x2:wr.cell? ⟨w.heap.size,2,none⟩=some (.int .i64 sum):=q_cell qx 2
    have x3:wr.cell? ⟨w.heap.size,3,none⟩=some (.slice a' n' c'):=q_cell qx 3
    have xl:=q_lt qx
    clear hI hC1 hcont hgo hnew qx HFIN
    go_wp2_with fail
    refine HCO.out.mono ?_
    rintro _ w2 ⟨⟨ar,nr,cr,vf,preM,rfl,hic2,hcr2,hrow2,hall2,hlen2,hloc2⟩,hb2⟩
    obtain ⟨am,cm,rfl⟩:=owns_shape hrow2.1
    have hs2:=hb2.size
    have HC2:=Lib.hid hic2
    have HW2:=Lib.hid hrow2
    have HL2:=Lib.hid (hloc2 (by decide) rfl)
    have HA2:=Lib.hid hall2
    clear x0 x1 x2 x3 xl y0 y1 y2 yl HCO hic2 hrow2 hall2 hloc2
    simp only at HC2 HA2 hlen2 ⊢
    have hA:Below wr.heap.size wr (w2.alloc (.cells #[.slice ar nr cr,.int .i64 t1,.bool d1] 76)):=keep_alloc hb2 _
    have q3:=World.alloc_heap_new w2 (.cells #[.slice ar nr cr,.int .i64 t1,.bool d1] 76)
    have QY3:=Lib.hid (keepq hA QY.out)
    have hrw:=HI.out.rows.below hA
    have hHB:Below w2.heap.size w2 (w2.alloc (.cells #[.slice ar nr cr,.int .i64 t1,.bool d1] 76)):=(Below.refl _ _).alloc (Nat.le_refl _) _
    have hM3:=HW2.out.below hHB
    have hi3:=HC2.out.mono hHB
    have hpc:PathC (w2.alloc (.cells #[.slice ar nr cr,.int .i64 t1,.bool d1] 76)) w.heap.size W0.heap.size (.slice av pre.length cv) ar nr cr P1:=⟨⟨hi3,hcr2⟩,fun b o h0 e=>⟨.inr (by have:=HL2.out b o h0 e;omega),fun e2=>by have h1:=HL2.out b o h0 e;have h2:=(HI.out.rows.1.lt b e2).2;omega⟩⟩
    have HM3:=Lib.hid hM3
    have HRW:=Lib.hid hrw
    have HPC:=Lib.hid hpc
    have HA:=Lib.hid hA
    have hb3:W0.heap.size≤w2.heap.size:=by omega
    clear hM3 hrw hpc hA hHB hi3
    go_upto_region 4 with fail
    obtain ⟨b3,hb3e⟩:∃b3,w2.heap.size=b3:=⟨_,rfl⟩
    generalize (w2.alloc (.cells #[.slice ar nr cr,.int .i64 t1,.bool d1] 76))=W3 at q3 QY3 HM3 HRW HPC HA ⊢
    rw[hb3e] at q3 hb3 ⊢
    have hs3:=store3 (x0 := .slice ar nr cr) (x1 := .int .i64 t1) (x2 := .bool d1) QY3.out
    have HS3:=Lib.hid hs3
    have z0:W3.cell? ⟨b3,0,none⟩=some (.slice ar nr cr):=q_cell q3 0
    have z1:W3.cell? ⟨b3,1,none⟩=some (.int .i64 t1):=q_cell q3 1
    have z2:W3.cell? ⟨b3,2,none⟩=some (.bool d1):=q_cell q3 2
    have zl:=q_lt q3
    have y0:W3.cell? ⟨w.heap.size+1,0,none⟩=some (.slice ax9 nx9 cx9):=q_cell QY3.out 0
    have y1:W3.cell? ⟨w.heap.size+1,1,none⟩=some (.int .i64 t9):=q_cell QY3.out 1
    have y2:W3.cell? ⟨w.heap.size+1,2,none⟩=some (.bool false):=q_cell QY3.out 2
    have yf0:=q_free QY3.out 0
    have yf1:=q_free QY3.out 1
    have yf2:=q_free QY3.out 2
    have yl:=q_lt QY3.out
    clear hs3 q3
    go_upto_region 5 with fail
    clear z0 z1 z2 zl y0 y1 y2 yf0 yf1 yf2 yl
    generalize (((W3.setCell ⟨w.heap.size+1,0,none⟩ (.slice ar nr cr)).setCell ⟨w.heap.size+1,1,none⟩ (.int .i64 t1)).setCell ⟨w.heap.size+1,2,none⟩ (.bool d1))=W4 at HS3 ⊢
    have hr4:=HRW.out.at HS3.out.2 (by omega)
    have hm4:∀x,x∈preM→W4.ownsRow W0.heap.size 3 1 x.1 x.2.length (x.2.map (Value.int .i64))∧∀k,x.1.ownBlock=some k→(Value.slice av pre.length cv).ownBlock≠some k:=fun x hx=>by
     have h1:=(HM3.out.2.2 x hx).1
     refine ⟨owns_keep (owns_base h1 hszr) (fun j e hl=>HS3.out.2.block j hl (fun e2=>by have:=(h1.lt j e).1;omega)),fun j e e2=>?_⟩
     have h2:=(h1.lt j e).1
     have h3:=(HI.out.rows.1.lt j e2).2
     omega
    have hm5:W4.ownsRow wr.heap.size 25 1 (.slice am preM.length cm) preM.length (preM.map Prod.fst):=owns_keep HM3.out.1 (fun j e hl=>HS3.out.2.block j hl (fun e2=>by have:=(HM3.out.1.lt j e).1;omega))
    have hsrc:=(owns_src hm5).1
    have hone:=rows_one HM3.out
    have hs4:W0.heap.size≤W4.heap.size:=by have h1:=HS3.out.2.size;have h2:=HA.out.size;omega
    have HM4:=Lib.hid hm4
    clear hm4 hm5 HM3
    go_wp2_with (at_builtin;refine wpList_append_any _ rfl _ _ 22 rfl W0.heap.size 25 i2 (.slice none 0 0) 24 Tryz.underlying22 hi hz0 hz1 hz2 rfl _ _ _ rfl hr4.1 hs4 _ _ _ (preM.map Prod.fst) rfl (by simp) hsrc hone (by unfold maxLen;omega) (by omega) ?_;intro v7 w7 hown7 hst7 hk7)
    obtain ⟨a7,c7,rfl⟩:=owns_shape hown7
    go_roundg (F - (k+1))
    case measure=>omega
    case rel =>
     have hI:=HI.out
     have hr7:=hr4.more HM4.out hst7 hown7 hk7
     have hv:∀j,(Value.slice av pre.length cv).ownBlock=some j→w.heap.size+1<j:=fun j e=>by have:=(hI.rows.1.lt j e).1;omega
     have hP7:=(HPC.out.at HS3.out.2 (by omega) (by omega)).grow hst7 hk7
     refine ⟨k+1,a7,c7,ar,nr,cr,P1,t1,d1,pre++preM,rfl,by simp,⟨by omega,hst7.q HS3.out.1 (fun e=>by have:=hv _ e;omega),?_,HNW.out.1,⟨HNW.out.2.1,HNW.out.2.2.1⟩,HNW.out.2.2.2,?_,by simp;omega,by rw[hI.go,HGO.out,List.map_append,HA2.out],?_⟩⟩
     ·simpa using hP7
     ·simpa using hr7
     ·refine ((hI.st.trans (Below.stays HA.out (fun b=>b=w.heap.size+1)) (fun _ e => .inl e)).trans HS3.out.2 (fun _ e => .inl e)).trans hst7 (fun i e => .inr ?_)
      have:=(hI.rows.1.lt i e).1
      omega
   ·have hmn:¬(pre.length:Int)<most:=hm
    clear hI
    go_wp2_with fail
    go_ret
    exact ⟨HFIN.out (.inr (by omega)),hBr⟩
def solsR (ls:List (List Int)) (sum:Int) (g:List Int) (most:Int):List (List Int):=restR ls sum g most (257 ^ (openL g).length) ([],0,false) []
theorem rsols_c {cells:Int} {ls:List (List Int)} {sum:Int} {g:List Int} (G:GoodTask cells ls sum g) (a:Option Addr) (n c:Nat) (a':Option Addr) (n' c':Nat) (most:Int) (w:World) (h:RC w a n ls) (h':IC w a' n' g) (hO:(openL g).length≤7) (hm0:0≤most) (hm1:most≤1000000000) :
  Calls Tryz.prog 19 #[.agg #[.int .i64 cells,.slice a n c,.int .i64 sum,.slice a' n' c'],.int .i64 most] w fun e w'=>RestOut w.heap.size (solsR ls sum g most) most e w'∧Below w.heap.size w w':=by
 have hp:257 ^ (openL g).length≤257 ^ 7:=Nat.pow_le_pow_right (by decide) hO
 have hp7:(257:Nat) ^ 7=74051159531521793:=by decide
 have hle:(0:Int)+((257 ^ (openL g).length:Nat):Int)≤8000000000000000000:=by omega
 have HR:=Lib.hid (fun w1 (hb:Below w.heap.size w w1)=>rrest_c G a n c a' n' c' none 0 0 [] 0 false most (257 ^ (openL g).length) w1 (h.mono hb) (h'.mono hb) (IC.nil _) (Nat.le_refl _) (OkG.nil g) (Int.le_refl _) rfl hle hm0 hm1)
 have hE:Hid (solsR ls sum g most=restR ls sum g most (257 ^ (openL g).length) ([],0,false) []):=rfl
 rw[hE.out]
 generalize restR ls sum g most (257 ^ (openL g).length) ([],0,false) []=R at HR ⊢
 clear h h' hp hp7 hle hE G
 go_enter Tryz.func19,Tryz.ntmps19
 go_wp2_with fail
 have fsz:(w.alloc (.cells #[.int .i64 cells,.slice a n c,.int .i64 sum,.slice a' n' c'] 28)).heap.size=w.heap.size+1:=by simp only[World.size_alloc]
 have fB:Below w.heap.size w (w.alloc (.cells #[.int .i64 cells,.slice a n c,.int .i64 sum,.slice a' n' c'] 28)):=(Below.refl _ _).alloc (Nat.le_refl _) _
 have fq0:(w.alloc (.cells #[.int .i64 cells,.slice a n c,.int .i64 sum,.slice a' n' c'] 28)).heap[w.heap.size]?=some (.cells #[.int .i64 cells,.slice a n c,.int .i64 sum,.slice a' n' c'] 28 (0,0)):=by have h:=World.alloc_heap_new w (.cells #[.int .i64 cells,.slice a n c,.int .i64 sum,.slice a' n' c'] 28);exact h
 generalize (w.alloc (.cells #[.int .i64 cells,.slice a n c,.int .i64 sum,.slice a' n' c'] 28))=W0 at fsz fB fq0 ⊢
 clear fq0 fsz
 refine (HR.out W0 fB).mono ?_
 rintro _ w1 ⟨⟨vf,pre,rfl,h1,h2,h3⟩,hb1⟩
 go_wp2_with fail
 go_ret
 exact ⟨⟨vf,pre,rfl,⟨owns_base h1.1 fB.size,h1.2.1,fun x hx=>⟨owns_base (h1.2.2 x hx).1 fB.size,(h1.2.2 x hx).2⟩⟩,h2,h3⟩,keep_trans fB hb1⟩
end
section
open Go Go.RowKit
theorem wrong_eq {cells:Int} {ls:List (List Int)} {sum:Int} {g:List Int} (G:GoodTask cells ls sum g) {P:List Int} (ho:OkG g P) (hr:Rch (plC ls sum g) P):wrongR ls sum g P=wrongB (plC ls sum g) P:=by
 rw[Bool.eq_iff_iff]
 unfold wrongR wrongB Cst.tbl
 rw[List.any_eq_true,List.any_eq_true]
 constructor
 ·rintro ⟨l,hl,hb⟩
  unfold badLB at hb
  rw[Bool.and_eq_true] at hb
  have h1:=(full_last G ho hl).1 hb.1
  rcases Nat.lt_or_ge (lastO (openL g) l) P.length with h2|h2
  ·have h3:=hr _ h2
   exfalso
   unfold wrongB Cst.tbl at h3
   rw[List.any_eq_false] at h3
   refine h3 l (List.mem_filter.2 ⟨hl,?_⟩) ?_
   ·rw[List.length_take,Nat.min_eq_left (by omega)];exact beq_self_eq_true _
   ·show (sumAt l (fillG g (P.take (lastO (openL g) l))) != sum)=true
    rw[sum_prefix G ho hl (Nat.le_refl _) (by omega)]
    exact hb.2
  ·refine ⟨l,List.mem_filter.2 ⟨hl,?_⟩,hb.2⟩
   have h3:lastO (openL g) l=P.length:=by omega
   show (lastO (openL g) l==P.length)=true
   rw[h3];exact beq_self_eq_true _
 ·rintro ⟨l,hl,hb⟩
  obtain ⟨hl,he⟩:=List.mem_filter.1 hl
  have he2:lastO (openL g) l=P.length:=by
   have he3:lastO (plC ls sum g).O l=P.length:=by simpa using he
   exact he3
  refine ⟨l,hl,?_⟩
  unfold badLB
  rw[(full_last G ho hl).2 (by omega),Bool.true_and]
  exact hb
theorem step_eq {cells:Int} {ls:List (List Int)} {sum:Int} {g:List Int} (G:GoodTask cells ls sum g) {P:List Int} (ho:OkG g P) (hr:Rch (plC ls sum g) P):stpR ls sum g P=nextP (plC ls sum g) P:=by
 have hb:∀R,backP (plC [] 0 g) R=backP (plC ls sum g) R:=fun R=>by
  induction R with
  | nil=>rfl
  | cons x R ih=>unfold backP;rw[ih];rfl
 unfold stpR nextP deadR
 rw[wrong_eq G ho hr,hb]
 have hO:(plC ls sum g).O=openL g:=rfl
 rw[hO]
 by_cases h:(P.length==(openL g).length)=false∧wrongB (plC ls sum g) P=false
 ·rw[if_pos (by rw[h.1,h.2];rfl),if_pos h];rfl
 ·rw[if_neg,if_neg h]
  intro e
  rw[Bool.or_eq_false_iff] at e
  exact h e
theorem found_eq {cells:Int} {ls:List (List Int)} {sum:Int} {g:List Int} (G:GoodTask cells ls sum g) {P:List Int} (ho:OkG g P) (hr:Rch (plC ls sum g) P):foundR ls sum g P=((P.length==(plC ls sum g).O.length)&&!wrongB (plC ls sum g) P):=by
 unfold foundR
 rw[wrong_eq G ho hr]
 rfl
theorem rest_visit {cells:Int} {ls:List (List Int)} {sum:Int} {g:List Int} (G:GoodTask cells ls sum g) (most:Nat) (h0:(openL g).length≠0):∀(f:Nat) (P:List Int) (t:Int) (acc:List (List Int)),OkG g P→Rch (plC ls sum g) P→acc.length≤most →
  restR ls sum g most f (P,t,false) acc=(acc++visit (plC ls sum g) f P).take most
 | 0,P,t,acc,_,_,hl=>by simp only[restR,visit,List.append_nil];rw[List.take_of_length_le hl]
 | f+1,P,t,acc,ho,hr,hl=>by
  simp only[restR,visit]
  by_cases hm:(most:Int)≤(acc.length:Int)
  ·rw[if_pos (.inr hm),List.take_append_of_le_length (by omega),List.take_of_length_le hl]
  ·rw[if_neg (fun h=>h.elim (fun h=>by cases h) hm)]
   have he:=step_eq G ho hr
   cases hs:nextP (plC ls sum g) P with
   | none =>
    rw[hs] at he
    rw[contR_one_none he,restR_end (.inl rfl)]
    have e2:(contR ls sum g 1 (P,t,false)).2=[]:=by
     unfold contR
     simp only[goR]
     rw[if_neg (by decide),he]
     unfold preR
     rw[if_neg (fun h=>h0 h.2.2.1)]
     rfl
    simp only[e2,List.append_nil]
    rw[List.take_of_length_le hl]
   | some P' =>
    rw[hs] at he
    have ho':=stpR_ok G ho he
    have hr':=rch_next hr hs
    have e2:(contR ls sum g 1 (P,t,false)).2=(if (P'.length==(plC ls sum g).O.length)=true∧wrongB (plC ls sum g) P'=false then [fillP (plC ls sum g) P'] else []):=by
     unfold contR
     simp only[goR]
     rw[if_neg (by decide),he]
     unfold preR
     rw[if_neg (fun h=>h0 h.2.2.1)]
     simp only[List.nil_append,List.append_nil]
     rw[found_eq G ho' hr']
     by_cases hc:(P'.length==(plC ls sum g).O.length)=true∧wrongB (plC ls sum g) P'=false
     ·rw[if_pos hc,if_pos (by rw[hc.1,hc.2];rfl)];rfl
     ·rw[if_neg hc,if_neg]
      intro e
      rw[Bool.and_eq_true,Bool.not_eq_true'] at e
      exact hc e
    rw[contR_one_some he,e2]
    have h3:(acc++(if (P'.length==(plC ls sum g).O.length)=true∧wrongB (plC ls sum g) P'=false then [fillP (plC ls sum g) P'] else [])).length≤most:=by
     rw[List.length_append]
     split
     ·simp;omega
     ·simp;omega
    rw[rest_visit G most h0 f P' (t+1) _ ho' hr' h3,List.append_assoc]
theorem solsR_eq {cells:Int} {ls:List (List Int)} {sum:Int} {g:List Int} (G:GoodTask cells ls sum g) (most:Nat):solsR ls sum g most=(solsL ls sum g []).take most:=by
 have hr0:Rch (plC ls sum g) []:=fun k hk=>absurd hk (Nat.not_lt_zero _)
 unfold solsR solsL sols
 by_cases h0:(openL g).length=0
 ·have h0':(plC ls sum g).O.length=0:=h0
  rw[if_pos h0',h0,Nat.pow_zero]
  simp only[restR]
  by_cases hm:(most:Int)≤0
  ·rw[if_pos (.inr (by simpa using hm)),show most=0 from by omega,List.take_zero]
  ·rw[if_neg (fun h=>h.elim (fun h=>by cases h) (fun h=>hm (by simpa using h)))]
   have hs:stpR ls sum g []=none:=by
    unfold stpR deadR
    rw[h0]
    rfl
   have hw:=wrong_eq G (OkG.nil g) hr0
   have e:(contR ls sum g 1 ([],0,false)).2=if wrongB (plC ls sum g) []=true then [] else [fillP (plC ls sum g) []]:=by
    unfold contR
    simp only[goR]
    rw[if_neg (by decide),hs]
    unfold preR foundR
    rw[h0,hw]
    cases wrongB (plC ls sum g) [] <;> rfl
   rw[e,List.nil_append]
   split
   ·simp
   ·rw[List.take_of_length_le]
    simp;omega
 ·have h0':(plC ls sum g).O.length≠0:=h0
  rw[if_neg h0',rest_visit G most h0 _ [] 0 [] (OkG.nil g) hr0 (Nat.zero_le _),List.nil_append]
  unfold found fuelP
  have hv:val (plC ls sum g).O.length []=0:=by
   cases (plC ls sum g).O.length <;> rfl
  rw[hv]
  rfl
end
end Go.Proofs.YtcblpobiefmjmaaGreat
