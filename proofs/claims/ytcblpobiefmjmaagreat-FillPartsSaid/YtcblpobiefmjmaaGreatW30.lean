/- Texts R3 to R5 of this proof, in one file. -/
import Derived.Test.YtcblpobiefmjmaaGreatW04
import Derived.Test.YtcblpobiefmjmaaGreatW06
import Derived.Test.YtcblpobiefmjmaaGreatW08
import Derived.Test.YtcblpobiefmjmaaGreatW23
namespace Go.Proofs.YtcblpobiefmjmaaGreat
set_option maxRecDepth 100000
set_option maxHeartbeats 16000000
section
open Go Go.RowKit
attribute [local go_sem] over_cell
attribute [local go_sem] Oper.semAt_some
theorem run_append_nothing {P:Program} (w:World) (t ty e:TypeId) (i:TypeInfo) (ht:P.underlying t=some (.slice e)) (hi:P.info? e=some i) (b:Option Addr) (n cap c:Nat) (h:n≤cap) :
  (Builtin.append_ #[t,t] ty #[.slice b n cap,.slice none 0 c]).run P w = .ok (.slice b n cap) w:=by
 cases b with
 | none=>simp[Builtin.append_,run_underlying ht,sizeOf,typeInfo,hi,Builtin.lenOf,Builtin.firstCells,h]
 | some a=>simp[Builtin.append_,run_underlying ht,sizeOf,typeInfo,hi,Builtin.lenOf,Builtin.firstCells,h,storeCells]
def SrcOk (w:World) (ad:Option Addr) (m:Nat) (news:List Value):Prop:=(∃p,ad=some p∧∀j u,news[j]?=some u→w.cell? (p.add j)=some u)∨(ad=none∧m=0)
theorem wpList_append_any {P:Program} (w:World) {ops:Array Oper} {rest:List Oper} {o:Oper} {a:Act} {Q:Exit→Act→World→Prop} (hgd:o.guard=none) (s x:Operand) (t:TypeId)
  (ho:o.op = .call { callee := .builtin .append,args:=#[s,x],argTypes:=#[t,t] })
  (B:Nat) (e:TypeId) (i:TypeInfo) (z:Value) (bytes:Nat) (ht:P.underlying t=some (.slice e)) (hi:P.info? e=some i) (hz:i.zero=some z)
  (hsize:i.size=1) (hby:i.bytes=bytes) (hzs:z.cells.size=1)
  (v:Value) (n:Nat) (xs:List Value) (hs:a.eval s=v) (hown:w.ownsRow B e 1 v n xs) (hB:B≤w.heap.size)
  (ad:Option Addr) (m c:Nat) (news:List Value) (hx:a.eval x = .slice ad m c) (hl:news.length=m) (hnews:SrcOk w ad m news) (h1:∀u∈news,u.oneCell'=true)
  (h63:n+m≤maxLen) (hbytes:(n+m)*bytes≤140737488355328)
  (h:∀v' w',w'.ownsRow B e 1 v' (n+m) (xs++news)→Stays (fun k=>v.ownBlock=some k) w w'→(∀k,v'.ownBlock=some k→v.ownBlock=some k∨w.heap.size≤k)→wpList P ops Q rest (a.put o.dst v') w'):wpList P ops Q (o :: rest) a w:=by
 rcases hnews with ⟨p,rfl,hn⟩|⟨rfl,rfl⟩
 ·refine wpList_append_own2 w hgd s x t ho e i z 1 bytes ht hi hz hsize hby hzs (by decide) v n xs hs (owns_base hown (Nat.zero_le _)) p m c news hx (by omega) hn h1 h63 hbytes ?_
  intro v' w' ho' hg hk
  refine h v' w' ?_ (Stays.grown hg (fun k e=>e)) hk
  refine ⟨ho'.1,ho'.2.imp id ?_⟩
  rintro ⟨g,cap,cur,rfl,_,r⟩
  refine ⟨g,cap,cur,rfl,?_,r⟩
  rcases hk g rfl with e|e
  ·exact (hown.lt g e).1
  ·omega
 ·have hn:news=[]:=List.eq_nil_of_length_eq_zero hl
  subst hn
  obtain ⟨b,cap,hv,hcap⟩:∃b cap,v = .slice b n cap∧n≤cap:=by
   rcases hown.2 with ⟨h2,h3⟩|⟨g,cap,cur,h2,_,_,h3,_⟩
   ·exact ⟨none,0,by rw[h2,h3],by omega⟩
   ·exact ⟨_,cap,h2,h3⟩
  refine wpList_plain hgd fun _ hK=>?_
  have hr:=run_append_nothing (P:=P) w t o.type e i ht hi b n cap c hcap
  unfold Oper.wp execOp
  simp only[ho,resolve,invoke,builtin,Sem.run_bind,Sem.run_pure,Result.andThen_ok,List.map_toArray,List.map_cons,List.map_nil,hs,hv,hx,hr]
  refine hK _ _ ?_
  rw[← hv]
  exact h v w (by simpa using hown) (Stays.refl _ _) (fun k e => .inl e)
theorem rdead_c {cells:Int} {ls:List (List Int)} {sum:Int} {g:List Int} (G:GoodTask cells ls sum g) (a:Option Addr) (n c:Nat) (a':Option Addr) (n' c':Nat) (ap:Option Addr) (np cp:Nat) (P:List Int) (w:World) (h:RC w a n ls) (h':IC w a' n' g) (hP:IC w ap np P) (hlp:np≤(openL g).length) (hPn:∀x,x∈P→0≤x∧x≤256) :
  Calls Tryz.prog 93 #[.agg #[.int .i64 cells,.slice a n c,.int .i64 sum,.slice a' n' c'],.slice ap np cp] w fun e w'=>e = .returned (.bool (deadR ls sum g P))∧Below w.heap.size w w':=by
 have HW:=Lib.hid (fun w1 (hb:Below w.heap.size w w1)=>rwrong_c G a n c a' n' c' ap np cp P w1 (h.mono hb) (h'.mono hb) (hP.mono hb) hlp hPn)
 have HO:=Lib.hid (fun w1 (hb:Below w.heap.size w w1)=>ropen_c (.slice a n c) cells sum a' n' c' g w1 (h'.mono hb))
 have hpl:=Lib.hid hP.len
 have hps:=hP.small
 have HD:Hid (deadR ls sum g P=((P.length==(openL g).length)||wrongR ls sum g P)):=rfl
 clear h h' hP hlp hPn G
 go_enter Tryz.func93,Tryz.ntmps93
 go_upto_region 1 with fail
 have fsz:(w.alloc (.cells #[.int .i64 cells,.slice a n c,.int .i64 sum,.slice a' n' c'] 28)).heap.size=w.heap.size+1:=by simp only[World.size_alloc]
 have fB:Below w.heap.size w (w.alloc (.cells #[.int .i64 cells,.slice a n c,.int .i64 sum,.slice a' n' c'] 28)):=(Below.refl _ _).alloc (Nat.le_refl _) _
 have fq0:(w.alloc (.cells #[.int .i64 cells,.slice a n c,.int .i64 sum,.slice a' n' c'] 28)).heap[w.heap.size]?=some (.cells #[.int .i64 cells,.slice a n c,.int .i64 sum,.slice a' n' c'] 28 (0,0)):=by have h:=World.alloc_heap_new w (.cells #[.int .i64 cells,.slice a n c,.int .i64 sum,.slice a' n' c'] 28);exact h
 generalize (w.alloc (.cells #[.int .i64 cells,.slice a n c,.int .i64 sum,.slice a' n' c'] 28))=W0 at fsz fB fq0 ⊢
 have HQ:=Lib.hid fq0
 have x0:W0.cell? ⟨w.heap.size,0,none⟩=some (.int .i64 cells):=q_cell fq0 0
 have x1:W0.cell? ⟨w.heap.size,1,none⟩=some (.slice a n c):=q_cell fq0 1
 have x2:W0.cell? ⟨w.heap.size,2,none⟩=some (.int .i64 sum):=q_cell fq0 2
 have x3:W0.cell? ⟨w.heap.size,3,none⟩=some (.slice a' n' c'):=q_cell fq0 3
 have xl:=q_lt fq0
 clear fq0 fsz
 by_cases e:np=(openL g).length
 ·have m1:((np:Int)==((openL g).length:Int))=true:=by simp[e]
  have HR:Hid (deadR ls sum g P=true):=by unfold Hid;rw[HD.out,hpl.out,e];simp
  clear e
  go_wp2_with (go_at_call 16;refine (HO.out _ fB).mono ?_;rintro _ w1 ⟨vo,rfl,howno,hb1⟩;obtain ⟨ao,co,rfl⟩:=owns_shape howno)
  go_ret
  exact ⟨ret_bool HR.out.symm,keep_trans fB hb1⟩
 ·have m1:((np:Int)==((openL g).length:Int))=false:=by simp;omega
  have HR:Hid (deadR ls sum g P=wrongR ls sum g P):=by unfold Hid;rw[HD.out,hpl.out,beq_eq_false_iff_ne.2 e];rfl
  clear e
  generalize wrongR ls sum g P=wv at HW HR
  go_wp2_with (first|(go_at_call 16;refine (HO.out _ fB).mono ?_;rintro _ w1 ⟨vo,rfl,howno,hb1⟩;obtain ⟨ao,co,rfl⟩:=owns_shape howno;have y0:=q_cell (keepq hb1 HQ.out) 0;have y1:=q_cell (keepq hb1 HQ.out) 1;have y2:=q_cell (keepq hb1 HQ.out) 2;have y3:=q_cell (keepq hb1 HQ.out) 3;have yl:=q_lt (keepq hb1 HQ.out))|(go_at_call 135;refine (HW.out _ (keep_trans fB hb1)).mono ?_;rintro _ w2 ⟨rfl,hb2⟩))
  go_ret
  exact ⟨ret_bool HR.out.symm,keep_trans (keep_trans fB hb1) hb2⟩
def aboveR (g P:List Int) (x:Nat):Nat:=aboveM (maskL (leftL (plC [] 0 g) P)) x
end
section
open Go Go.RowKit
attribute [local go_sem] over_cell
attribute [local go_sem] Oper.semAt_some
def stpR (ls:List (List Int)) (sum:Int) (g P:List Int):Option (List Int) :=
 if deadR ls sum g P=false then some (P++[((aboveR g P 0:Nat):Int)]) else backP (plC [] 0 g) P.reverse
end
section
open Go Go.RowKit
abbrev Sta:=List Int × Int × Bool
def goR (ls:List (List Int)) (sum:Int) (g:List Int):Nat→Sta→Sta × List (List Int)
 | 0,s=>(s,[])
 | k+1,s=>if s.2.2=true then (s,[]) else match stpR ls sum g s.1 with
  | none=>(([],s.2.1,true),[])
  | some P'=>((goR ls sum g k (P',s.2.1+1,false)).1,(if foundR ls sum g P'=true then [fillG g P'] else [])++(goR ls sum g k (P',s.2.1+1,false)).2)
def preR (ls:List (List Int)) (sum:Int) (g:List Int) (B:Nat) (d:Bool):List (List Int) :=
 if 0<B∧d=false∧(openL g).length=0∧foundR ls sum g []=true then [fillG g []] else []
def contR (ls:List (List Int)) (sum:Int) (g:List Int) (B:Nat) (s:Sta):Sta × List (List Int) :=
 ((goR ls sum g B s).1,preR ls sum g B s.2.2++(goR ls sum g B s).2)
theorem goR_done (ls:List (List Int)) (sum:Int) (g:List Int) (k:Nat) (s:Sta) (h:s.2.2=true):goR ls sum g k s=(s,[]):=by
 cases k with
 | zero=>rfl
 | succ k=>simp only[goR];rw[if_pos h]
theorem stpR_ok {cells:Int} {ls:List (List Int)} {sum:Int} {g:List Int} (G:GoodTask cells ls sum g) {P P':List Int} (ho:OkG g P) (h:stpR ls sum g P=some P'):OkG g P':=by
 have ho2:OkP (gC cells ls sum g) P:=⟨ho.1,ho.2,ho.3⟩
 unfold stpR at h
 split at h
 ·rename_i hd
  cases h
  have hne:P.length≠(openL g).length:=by
   unfold deadR at hd
   simp only[Bool.or_eq_false_iff,beq_eq_false_iff_ne] at hd
   exact hd.1
  have hl:P.length<(openL g).length:=by have:=ho.len;omega
  have ha:=above_left (above_first (gC_even G) (gC_fine G) (P:=P) hl)
  have h2:=ho2.push hl ha.1 ha.2
  exact ⟨h2.1,h2.2,h2.3⟩
 ·have h2:backP (gC cells ls sum g) P.reverse=some P':=by
   have e:∀R,backP (gC cells ls sum g) R=backP (plC [] 0 g) R:=fun R=>by
    induction R with
    | nil=>rfl
    | cons x R ih=>unfold backP;rw[ih];rfl
   rw[e];exact h
  have h3:=backP_ok P.reverse P' (by rw[List.reverse_reverse];exact ho2) h2
  exact ⟨h3.1,h3.2,h3.3⟩
theorem IC.stays {S:Nat→Prop} {W W':World} {a:Option Addr} {n:Nat} {xs:List Int} (h:IC W a n xs) (hs:Stays S W W') (hn:∀b o,0<n→a=some ⟨b,o,none⟩→¬S b):IC W' a n xs :=
 ⟨h.1,fun k hk=>by
  obtain ⟨b,off,e,hlt,hc⟩:=h.2 k hk
  exact ⟨b,off,e,Nat.lt_of_lt_of_le hlt hs.size,(hs.cell hlt (hn b off (by omega) e)).trans hc⟩⟩
def noB:Nat→Prop:=fun _=>False
theorem RowsI.below {W W':World} {L:Nat} {v:Value} {pre:List (Value × List Int)} (h:RowsI W noB L v pre) (hb:Below W.heap.size W W'):RowsI W' noB L v pre :=
 ⟨owns_keep h.1 (fun k _ hl=>hb.block k hl),h.2.1,fun x hx=>⟨owns_keep (h.2.2 x hx).1 (fun k _ hl=>hb.block k hl),(h.2.2 x hx).2⟩⟩
def PathC (W:World) (L0 L:Nat) (v:Value) (ax:Option Addr) (nx cx:Nat) (P:List Int):Prop :=
 (IC W ax nx P∧nx≤cx)∧∀b o,0<nx→ax=some ⟨b,o,none⟩→(b<L0∨L≤b)∧v.ownBlock≠some b
theorem PathC.nil (W:World) (L0 L:Nat) (v:Value):PathC W L0 L v none 0 0 []:=⟨⟨IC.nil _,Nat.le_refl _⟩,fun b o h _=>absurd h (by omega)⟩
theorem PathC.below {W W':World} {L0 L:Nat} {v:Value} {ax:Option Addr} {nx cx:Nat} {P:List Int} (h:PathC W L0 L v ax nx cx P) (hb:Below W.heap.size W W'):PathC W' L0 L v ax nx cx P :=
 ⟨⟨h.1.1.mono hb,h.1.2⟩,h.2⟩
theorem PathC.grow {W W':World} {L0 L:Nat} {v v':Value} {ax:Option Addr} {nx cx:Nat} {P:List Int} (h:PathC W L0 L v ax nx cx P) (hs:Stays (fun k=>v.ownBlock=some k) W W') (hk:∀k,v'.ownBlock=some k→v.ownBlock=some k∨W.heap.size≤k):PathC W' L0 L v' ax nx cx P:=by
 have hlt:∀b o,0<nx→ax=some ⟨b,o,none⟩→b<W.heap.size:=fun b o hn e=>by
  obtain ⟨b2,o2,e2,hl,_⟩:=h.1.1.2 0 hn
  rw[e] at e2
  cases e2
  exact hl
 refine ⟨⟨h.1.1.stays hs (fun b o hn e=>(h.2 b o hn e).2),h.1.2⟩,fun b o hn e=>⟨(h.2 b o hn e).1,fun e2=>?_⟩⟩
 rcases hk b e2 with e3|e3
 ·exact (h.2 b o hn e).2 e3
 ·have:=hlt b o hn e;omega
end
end Go.Proofs.YtcblpobiefmjmaaGreat
