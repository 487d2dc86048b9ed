/- Texts R3 to R5 of this proof, in one file. -/
import Derived.Test.YtcblpobiefmjmaaGreatW04
import Derived.Test.YtcblpobiefmjmaaGreatW06
import Derived.Test.YtcblpobiefmjmaaGreatW08
import Derived.Test.YtcblpobiefmjmaaGreatW23
namespace Go.Proofs.YtcblpobiefmjmaaGreat
set_option maxRecDepth 100000
set_option maxHeartbeats 16000000
section
open Go Go.RowKit
attribute [local go_sem] over_cell
attribute [local go_sem] Oper.semAt_some
theorem run_append_nothing {P:Program} (w:World) (t ty e:TypeId) (i:TypeInfo) (ht:P.underlying t=some (.slice e)) (hi:P.info? e=some i) (b:Option Addr) (n cap c:Nat) (h:n≤cap) :
  (Builtin.append_ #[t,t] ty #[.slice b n cap,.slice none 0 c]).run P w = .ok (.slice b n cap) w:=by
 cases b with
 | none=>simp[Builtin.append_,run_underlying ht,sizeOf,typeInfo,hi,Builtin.lenOf,Builtin.firstCells,h]
 | some a=>simp[Builtin.append_,run_underlying ht,sizeOf,typeInfo,hi,Builtin.lenOf,Builtin.firstCells,h,storeCells]
def SrcOk (w:World) (ad:Option Addr) (m:Nat) (news:List Value):Prop:=(∃p,ad=some p∧∀j u,news[j]?=some u→w.cell? (p.add j)=some u)∨(ad=none∧m=0)
theorem IC.src {w:World} {ad:Option Addr} {m:Nat} {xs:List Int} (h:IC w ad m xs):SrcOk w ad m (xs.map (Value.int .i64)):=by
 cases ad with
 | some p=>exact .inl ⟨p,rfl,h.cells⟩
 | none =>
  refine .inr ⟨rfl,?_⟩
  rcases Nat.eq_zero_or_pos m with e|e
  ·exact e
  ·obtain ⟨_,_,e2,_⟩:=h.2 0 e
   cases e2
theorem wpList_append_any {P:Program} (w:World) {ops:Array Oper} {rest:List Oper} {o:Oper} {a:Act} {Q:Exit→Act→World→Prop} (hgd:o.guard=none) (s x:Operand) (t:TypeId)
  (ho:o.op = .call { callee := .builtin .append,args:=#[s,x],argTypes:=#[t,t] })
  (B:Nat) (e:TypeId) (i:TypeInfo) (z:Value) (bytes:Nat) (ht:P.underlying t=some (.slice e)) (hi:P.info? e=some i) (hz:i.zero=some z)
  (hsize:i.size=1) (hby:i.bytes=bytes) (hzs:z.cells.size=1)
  (v:Value) (n:Nat) (xs:List Value) (hs:a.eval s=v) (hown:w.ownsRow B e 1 v n xs) (hB:B≤w.heap.size)
  (ad:Option Addr) (m c:Nat) (news:List Value) (hx:a.eval x = .slice ad m c) (hl:news.length=m) (hnews:SrcOk w ad m news) (h1:∀u∈news,u.oneCell'=true)
  (h63:n+m≤maxLen) (hbytes:(n+m)*bytes≤140737488355328)
  (h:∀v' w',w'.ownsRow B e 1 v' (n+m) (xs++news)→Stays (fun k=>v.ownBlock=some k) w w'→(∀k,v'.ownBlock=some k→v.ownBlock=some k∨w.heap.size≤k)→wpList P ops Q rest (a.put o.dst v') w'):wpList P ops Q (o :: rest) a w:=by
 rcases hnews with ⟨p,rfl,hn⟩|⟨rfl,rfl⟩
 ·refine wpList_append_own2 w hgd s x t ho e i z 1 bytes ht hi hz hsize hby hzs (by decide) v n xs hs (owns_base hown (Nat.zero_le _)) p m c news hx (by omega) hn h1 h63 hbytes ?_
  intro v' w' ho' hg hk
  refine h v' w' ?_ (Stays.grown hg (fun k e=>e)) hk
  refine ⟨ho'.1,ho'.2.imp id ?_⟩
  rintro ⟨g,cap,cur,rfl,_,r⟩
  refine ⟨g,cap,cur,rfl,?_,r⟩
  rcases hk g rfl with e|e
  ·exact (hown.lt g e).1
  ·omega
 ·have hn:news=[]:=List.eq_nil_of_length_eq_zero hl
  subst hn
  obtain ⟨b,cap,hv,hcap⟩:∃b cap,v = .slice b n cap∧n≤cap:=by
   rcases hown.2 with ⟨h2,h3⟩|⟨g,cap,cur,h2,_,_,h3,_⟩
   ·exact ⟨none,0,by rw[h2,h3],by omega⟩
   ·exact ⟨_,cap,h2,h3⟩
  refine wpList_plain hgd fun _ hK=>?_
  have hr:=run_append_nothing (P:=P) w t o.type e i ht hi b n cap c hcap
  unfold Oper.wp execOp
  simp only[ho,resolve,invoke,builtin,Sem.run_bind,Sem.run_pure,Result.andThen_ok,List.map_toArray,List.map_cons,List.map_nil,hs,hv,hx,hr]
  refine hK _ _ ?_
  rw[← hv]
  exact h v w (by simpa using hown) (Stays.refl _ _) (fun k e => .inl e)
theorem rdead_c {cells:Int} {ls:List (List Int)} {sum:Int} {g:List Int} (G:GoodTask cells ls sum g) (a:Option Addr) (n c:Nat) (a':Option Addr) (n' c':Nat) (ap:Option Addr) (np cp:Nat) (P:List Int) (w:World) (h:RC w a n ls) (h':IC w a' n' g) (hP:IC w ap np P) (hlp:np≤(openL g).length) (hPn:∀x,x∈P→0≤x∧x≤256) :
  Calls Tryz.prog 93 #[.agg #[.int .i64 cells,.slice a n c,.int .i64 sum,.slice a' n' c'],.slice ap np cp] w fun e w'=>e = .returned (.bool (deadR ls sum g P))∧Below w.heap.size w w':=by
 have HW:=Lib.hid (fun w1 (hb:Below w.heap.size w w1)=>rwrong_c G a n c a' n' c' ap np cp P w1 (h.mono hb) (h'.mono hb) (hP.mono hb) hlp hPn)
 have HO:=Lib.hid (fun w1 (hb:Below w.heap.size w w1)=>ropen_c (.slice a n c) cells sum a' n' c' g w1 (h'.mono hb))
 have hpl:=Lib.hid hP.len
 have hps:=hP.small
 have HD:Hid (deadR ls sum g P=((P.length==(openL g).length)||wrongR ls sum g P)):=rfl
 clear h h' hP hlp hPn G
 go_enter Tryz.func93,Tryz.ntmps93
 go_upto_region 1 with fail
 have fsz:(w.alloc (.cells #[.int .i64 cells,.slice a n c,.int .i64 sum,.slice a' n' c'] 28)).heap.size=w.heap.size+1:=by simp only[World.size_alloc]
 have fB:Below w.heap.size w (w.alloc (.cells #[.int .i64 cells,.slice a n c,.int .i64 sum,.slice a' n' c'] 28)):=(Below.refl _ _).alloc (Nat.le_refl _) _
 have fq0:(w.alloc (.cells #[.int .i64 cells,.slice a n c,.int .i64 sum,.slice a' n' c'] 28)).heap[w.heap.size]?=some (.cells #[.int .i64 cells,.slice a n c,.int .i64 sum,.slice a' n' c'] 28 (0,0)):=by have h:=World.alloc_heap_new w (.cells #[.int .i64 cells,.slice a n c,.int .i64 sum,.slice a' n' c'] 28);exact h
 generalize (w.alloc (.cells #[.int .i64 cells,.slice a n c,.int .i64 sum,.slice a' n' c'] 28))=W0 at fsz fB fq0 ⊢
 have HQ:=Lib.hid fq0
 have x0:W0.cell? ⟨w.heap.size,0,none⟩=some (.int .i64 cells):=q_cell fq0 0
 have x1:W0.cell? ⟨w.heap.size,1,none⟩=some (.slice a n c):=q_cell fq0 1
 have x2:W0.cell? ⟨w.heap.size,2,none⟩=some (.int .i64 sum):=q_cell fq0 2
 have x3:W0.cell? ⟨w.heap.size,3,none⟩=some (.slice a' n' c'):=q_cell fq0 3
 have xl:=q_lt fq0
 clear fq0 fsz
 by_cases e:np=(openL g).length
 ·have m1:((np:Int)==((openL g).length:Int))=true:=by simp[e]
  have HR:Hid (deadR ls sum g P=true):=by unfold Hid;rw[HD.out,hpl.out,e];simp
  clear e
  go_wp2_with (go_at_call 16;refine (HO.out _ fB).mono ?_;rintro _ w1 ⟨vo,rfl,howno,hb1⟩;obtain ⟨ao,co,rfl⟩:=owns_shape howno)
  go_ret
  exact ⟨ret_bool HR.out.symm,keep_trans fB hb1⟩
 ·have m1:((np:Int)==((openL g).length:Int))=false:=by simp;omega
  have HR:Hid (deadR ls sum g P=wrongR ls sum g P):=by unfold Hid;rw[HD.out,hpl.out,beq_eq_false_iff_ne.2 e];rfl
  clear e
  generalize wrongR ls sum g P=wv at HW HR
  go_wp2_with (first|(go_at_call 16;refine (HO.out _ fB).mono ?_;rintro _ w1 ⟨vo,rfl,howno,hb1⟩;obtain ⟨ao,co,rfl⟩:=owns_shape howno;have y0:=q_cell (keepq hb1 HQ.out) 0;have y1:=q_cell (keepq hb1 HQ.out) 1;have y2:=q_cell (keepq hb1 HQ.out) 2;have y3:=q_cell (keepq hb1 HQ.out) 3;have yl:=q_lt (keepq hb1 HQ.out))|(go_at_call 135;refine (HW.out _ (keep_trans fB hb1)).mono ?_;rintro _ w2 ⟨rfl,hb2⟩))
  go_ret
  exact ⟨ret_bool HR.out.symm,keep_trans (keep_trans fB hb1) hb2⟩
theorem rfound_c {cells:Int} {ls:List (List Int)} {sum:Int} {g:List Int} (G:GoodTask cells ls sum g) (a:Option Addr) (n c:Nat) (a':Option Addr) (n' c':Nat) (ap:Option Addr) (np cp:Nat) (P:List Int) (w:World) (h:RC w a n ls) (h':IC w a' n' g) (hP:IC w ap np P) (hlp:np≤(openL g).length) (hPn:∀x,x∈P→0≤x∧x≤256) :
  Calls Tryz.prog 94 #[.agg #[.int .i64 cells,.slice a n c,.int .i64 sum,.slice a' n' c'],.slice ap np cp] w fun e w'=>e = .returned (.bool (foundR ls sum g P))∧Below w.heap.size w w':=by
 have HW:=Lib.hid (fun w1 (hb:Below w.heap.size w w1)=>rwrong_c G a n c a' n' c' ap np cp P w1 (h.mono hb) (h'.mono hb) (hP.mono hb) hlp hPn)
 have HO:=Lib.hid (fun w1 (hb:Below w.heap.size w w1)=>ropen_c (.slice a n c) cells sum a' n' c' g w1 (h'.mono hb))
 have hpl:=Lib.hid hP.len
 have hps:=hP.small
 have HD:Hid (foundR ls sum g P=((P.length==(openL g).length)&&!wrongR ls sum g P)):=rfl
 clear h h' hP hlp hPn G
 go_enter Tryz.func94,Tryz.ntmps94
 go_upto_region 1 with fail
 have fsz:(w.alloc (.cells #[.int .i64 cells,.slice a n c,.int .i64 sum,.slice a' n' c'] 28)).heap.size=w.heap.size+1:=by simp only[World.size_alloc]
 have fB:Below w.heap.size w (w.alloc (.cells #[.int .i64 cells,.slice a n c,.int .i64 sum,.slice a' n' c'] 28)):=(Below.refl _ _).alloc (Nat.le_refl _) _
 have fq0:(w.alloc (.cells #[.int .i64 cells,.slice a n c,.int .i64 sum,.slice a' n' c'] 28)).heap[w.heap.size]?=some (.cells #[.int .i64 cells,.slice a n c,.int .i64 sum,.slice a' n' c'] 28 (0,0)):=by have h:=World.alloc_heap_new w (.cells #[.int .i64 cells,.slice a n c,.int .i64 sum,.slice a' n' c'] 28);exact h
 generalize (w.alloc (.cells #[.int .i64 cells,.slice a n c,.int .i64 sum,.slice a' n' c'] 28))=W0 at fsz fB fq0 ⊢
 have HQ:=Lib.hid fq0
 have x0:W0.cell? ⟨w.heap.size,0,none⟩=some (.int .i64 cells):=q_cell fq0 0
 have x1:W0.cell? ⟨w.heap.size,1,none⟩=some (.slice a n c):=q_cell fq0 1
 have x2:W0.cell? ⟨w.heap.size,2,none⟩=some (.int .i64 sum):=q_cell fq0 2
 have x3:W0.cell? ⟨w.heap.size,3,none⟩=some (.slice a' n' c'):=q_cell fq0 3
 have xl:=q_lt fq0
 clear fq0 fsz
 by_cases e:np=(openL g).length
 ·have m1:((np:Int)==((openL g).length:Int))=true:=by simp[e]
  have HR:Hid (foundR ls sum g P=!wrongR ls sum g P):=by unfold Hid;rw[HD.out,hpl.out,e];simp
  clear e
  generalize wrongR ls sum g P=wv at HW HR
  go_wp2_with (first|(go_at_call 16;refine (HO.out _ fB).mono ?_;rintro _ w1 ⟨vo,rfl,howno,hb1⟩;obtain ⟨ao,co,rfl⟩:=owns_shape howno;have y0:=q_cell (keepq hb1 HQ.out) 0;have y1:=q_cell (keepq hb1 HQ.out) 1;have y2:=q_cell (keepq hb1 HQ.out) 2;have y3:=q_cell (keepq hb1 HQ.out) 3;have yl:=q_lt (keepq hb1 HQ.out))|(go_at_call 135;refine (HW.out _ (keep_trans fB hb1)).mono ?_;rintro _ w2 ⟨rfl,hb2⟩))
  go_ret
  exact ⟨ret_bool HR.out.symm,keep_trans (keep_trans fB hb1) hb2⟩
 ·have m1:((np:Int)==((openL g).length:Int))=false:=by simp;omega
  have HR:Hid (foundR ls sum g P=false):=by unfold Hid;rw[HD.out,hpl.out,beq_eq_false_iff_ne.2 e];rfl
  clear e
  go_wp2_with (go_at_call 16;refine (HO.out _ fB).mono ?_;rintro _ w1 ⟨vo,rfl,howno,hb1⟩;obtain ⟨ao,co,rfl⟩:=owns_shape howno)
  go_ret
  exact ⟨ret_bool HR.out.symm,keep_trans fB hb1⟩
def aboveR (g P:List Int) (x:Nat):Nat:=aboveM (maskL (leftL (plC [] 0 g) P)) x
theorem bitR {g P:List Int} {j:Nat} (h0:1≤j):(maskL (leftL (plC [] 0 g) P)).testBit (j - 1)=(decide (j≤g.length)&&!hasB g j&&!hasB P j):=by
 rw[testBit_maskL,hasB_left,show ((j - 1:Nat):Int)+1=(j:Int) from by omega]
 congr 1
 rw[Bool.eq_iff_iff,hasB_iff]
 show (j:Int)∈unusedL g↔_
 rw[mem_unused]
 simp only[Bool.and_eq_true,decide_eq_true_eq,Bool.not_eq_true']
 constructor
 ·rintro ⟨_,h2,h3⟩;exact ⟨by omega,h3⟩
 ·rintro ⟨h2,h3⟩;exact ⟨by omega,by omega,h3⟩
theorem rabove_c (v1:Value) (cells sum:Int) (a':Option Addr) (n' c':Nat) (g:List Int) (ap:Option Addr) (np cp:Nat) (P:List Int) (x:Nat) (w:World) (h':IC w a' n' g) (hn:n'≤256) (hP:IC w ap np P) (hx:x≤256) :
  Calls Tryz.prog 136 #[.agg #[.int .i64 cells,v1,.int .i64 sum,.slice a' n' c'],.slice ap np cp,.int .i64 x] w fun e w'=>e = .returned (.int .i64 (aboveR g P x:Nat))∧Below w.heap.size w w':=by
 have hgl:=Lib.hid h'.len
 have HBT:Hid (∀j:Nat,1≤j→(maskL (leftL (plC [] 0 g) P)).testBit (j - 1)=(decide (j≤g.length)&&!hasB g j&&!hasB P j)):=fun j hj=>bitR hj
 have HHG:=Lib.hid (fun (m:Int) w1 (hb:Below w.heap.size w w1)=>has_c a' n' c' g m w1 (h'.mono hb))
 have HHP:=Lib.hid (fun (m:Int) w1 (hb:Below w.heap.size w w1)=>has_c ap np cp P m w1 (hP.mono hb))
 have HAB:Hid (aboveR g P x=aboveM (maskL (leftL (plC [] 0 g) P)) x):=rfl
 generalize maskL (leftL (plC [] 0 g) P)=M at HBT HAB
 clear h' hP
 go_enter Tryz.func136,Tryz.ntmps136
 go_wp2_with fail
 have fsz:(w.alloc (.cells #[.int .i64 cells,v1,.int .i64 sum,.slice a' n' c'] 28)).heap.size=w.heap.size+1:=by simp only[World.size_alloc]
 have fB:Below w.heap.size w (w.alloc (.cells #[.int .i64 cells,v1,.int .i64 sum,.slice a' n' c'] 28)):=(Below.refl _ _).alloc (Nat.le_refl _) _
 have fq0:(w.alloc (.cells #[.int .i64 cells,v1,.int .i64 sum,.slice a' n' c'] 28)).heap[w.heap.size]?=some (.cells #[.int .i64 cells,v1,.int .i64 sum,.slice a' n' c'] 28 (0,0)):=by have h:=World.alloc_heap_new w (.cells #[.int .i64 cells,v1,.int .i64 sum,.slice a' n' c'] 28);exact h
 generalize (w.alloc (.cells #[.int .i64 cells,v1,.int .i64 sum,.slice a' n' c'] 28))=W0 at fsz fB fq0 ⊢
 have x3:W0.cell? ⟨w.heap.size,3,none⟩=some (.slice a' n' c'):=q_cell fq0 3
 have xl:=q_lt fq0
 clear fq0 fsz
 go_loop [7] (fun iv=>∃k:Nat,x<k∧k≤257∧iv = .int .i64 k∧Hid (∀j,x<j→j<k→M.testBit (j - 1)=false)) (fun iv=>300 - (intOf iv).toNat)
 case atStart=>exact ⟨x+1,by omega,by omega,by go_num,fun j h1 h2=>absurd h2 (by omega)⟩
 case round =>
  obtain ⟨k,hxk,hk,rfl,hno⟩:=hrel
  have HB:=Lib.hid (HBT.out k (by omega))
  by_cases hle:k≤n'
  ·have hki:(k:Int)≤(n':Int):=by omega
   rw[decide_eq_true (by rw[hgl.out];exact hle),Bool.true_and] at HB
   have HHG2:=Lib.hid (HHG.out (k:Int))
   have HHP2:=Lib.hid (HHP.out (k:Int))
   cases h1:hasB g (k:Int) with
   | true =>
    rw[h1] at HB HHG2
    clear h1
    go_wp2_with (go_at_call 59;refine (HHG2.out _ fB).mono ?_;rintro _ w1 ⟨rfl,rfl⟩)
    go_round
    case rel=>exact ⟨k+1,by omega,by omega,by go_num,fun j h1 h2=>(by
     by_cases e:j=k
     ·rw[e,HB.out];rfl
     ·exact hno.out j h1 (by omega))⟩
    case measure=>simp[intOf];omega
   | false =>
    rw[h1] at HB HHG2
    clear h1
    cases h2:hasB P (k:Int) with
    | true =>
     rw[h2] at HB HHP2
     clear h2
     go_wp2_with (first|(go_at_call 59;refine (HHG2.out _ fB).mono ?_;rintro _ w1 ⟨rfl,rfl⟩;clear HHG2)|(go_at_call 59;refine (HHP2.out _ fB).mono ?_;rintro _ w1 ⟨rfl,rfl⟩))
     go_round
     case rel=>exact ⟨k+1,by omega,by omega,by go_num,fun j h1 h2=>(by
      by_cases e:j=k
      ·rw[e,HB.out];rfl
      ·exact hno.out j h1 (by omega))⟩
     case measure=>simp[intOf];omega
    | false =>
     rw[h2] at HB HHP2
     clear h2
     go_wp2_with (first|(go_at_call 59;refine (HHG2.out _ fB).mono ?_;rintro _ w1 ⟨rfl,rfl⟩;clear HHG2)|(go_at_call 59;refine (HHP2.out _ fB).mono ?_;rintro _ w1 ⟨rfl,rfl⟩))
     go_ret
     exact ⟨ret_int (by rw[HAB.out,aboveM_hit hno.out hxk (by omega) HB.out]),fB⟩
  ·rw[decide_eq_false (by rw[hgl.out];exact hle),Bool.false_and,Bool.false_and] at HB
   have hki:¬(k:Int)≤(n':Int):=by omega
   go_wp2_with fail
   go_ret
   exact ⟨ret_int (by rw[HAB.out,aboveM_none (fun j h1 h2=>(by
    rcases Nat.lt_or_ge j k with h3|h3
    ·exact hno.out j h1 h3
    ·rw[HBT.out j (by omega),decide_eq_false (by rw[hgl.out];omega)];rfl))];rfl),fB⟩
end
section
open Go Go.RowKit
attribute [local go_sem] over_cell
attribute [local go_sem] Oper.semAt_some
def stpR (ls:List (List Int)) (sum:Int) (g P:List Int):Option (List Int) :=
 if deadR ls sum g P=false then some (P++[((aboveR g P 0:Nat):Int)]) else backP (plC [] 0 g) P.reverse
theorem back_step {g P:List Int} {k:Nat} (hk:k<P.length):backP (plC [] 0 g) (P.take (k+1)).reverse=if 0<aboveR g (P.take k) (P[k]?.getD 0).toNat then some (P.take k++[((aboveR g (P.take k) (P[k]?.getD 0).toNat:Nat):Int)]) else backP (plC [] 0 g) (P.take k).reverse:=by
 rw[take_snoc P 0 k hk,List.reverse_append]
 simp only[List.reverse_cons,List.reverse_nil,List.nil_append,List.cons_append,backP,List.reverse_reverse]
 rfl
theorem aboveR_le (g P:List Int) (x:Nat):aboveR g P x≤256:=by
 rcases Nat.eq_zero_or_pos (aboveR g P x) with e|e
 ·omega
 ·exact (aboveM_spec e).2.1
theorem ints_one (xs:List Int):∀u∈xs.map (Value.int .i64),u.oneCell'=true:=by
 intro u hu
 obtain ⟨x,_,rfl⟩:=List.mem_map.1 hu
 rfl
theorem two_appends {B:Nat} {w0 w2 w5 w6:World} {o1 o2:Obj} {v5:Value} (hb:Below B w0 w2) (h0:B≤w0.heap.size) (hst5:Stays (fun k=>(Value.slice (some ⟨w2.heap.size,0,none⟩) 0 0).ownBlock=some k) (w2.alloc o1) w5)
  (hk5:∀k,v5.ownBlock=some k→(Value.slice (some ⟨w2.heap.size,0,none⟩) 0 0).ownBlock=some k∨(w2.alloc o1).heap.size≤k) (hst6:Stays (fun k=>v5.ownBlock=some k) (w5.alloc o2) w6):Below B w0 w6:=by
 have hB:B≤w2.heap.size:=Nat.le_trans h0 hb.size
 have e1:w2.heap.size≤(w2.alloc o1).heap.size:=by simp
 have e2:w5.heap.size≤(w5.alloc o2).heap.size:=by simp
 have h5:=hst5.size
 have b1:Below B w0 (w2.alloc o1):=hb.alloc hB _
 have b2:Below B (w2.alloc o1) w5:=hst5.below (by omega) (fun k e=>by simp only[Value.ownBlock,Option.some.injEq] at e;omega)
 have b3:Below B w0 (w5.alloc o2):=(b1.trans b2).alloc (by omega) _
 refine b3.trans (hst6.below (by omega) (fun k e=>?_))
 rcases hk5 k e with e3|e3
 ·simp only[Value.ownBlock,Option.some.injEq] at e3;omega
 ·omega
theorem step_c {cells:Int} {ls:List (List Int)} {sum:Int} {g:List Int} (G:GoodTask cells ls sum g) (a:Option Addr) (n c:Nat) (a':Option Addr) (n' c':Nat) (ap:Option Addr) (np cp:Nat) (P:List Int) (w:World) (h:RC w a n ls) (h':IC w a' n' g) (hP:IC w ap np P) (hcp:np≤cp) (hlp:np≤(openL g).length) (hPn:∀x,x∈P→0≤x∧x≤256) :
  Calls Tryz.prog 96 #[.agg #[.int .i64 cells,.slice a n c,.int .i64 sum,.slice a' n' c'],.slice ap np cp] w fun e w'=>∃v,e = .returned v∧w'.ownsRow w.heap.size 3 1 v ((stpR ls sum g P).getD []).length (((stpR ls sum g P).getD []).map (Value.int .i64))∧Below w.heap.size w w':=by
 obtain ⟨i0,hi,hz0,hz1,hz2⟩:=info_parts infoInt
 have hn1:n'≤256:=by have:=G.len;have:=G.cells2;have:=h'.len;omega
 have HDE:=Lib.hid (fun w1 (hb:Below w.heap.size w w1)=>rdead_c G a n c a' n' c' ap np cp P w1 (h.mono hb) (h'.mono hb) (hP.mono hb) hlp hPn)
 have HAB:=Lib.hid (fun (k:Nat) (hk:k≤np) (x:Nat) (hx:x≤256) w1 (hb:Below w.heap.size w w1)=>rabove_c (.slice a n c) cells sum a' n' c' g ap k cp (P.take k) x w1 (h'.mono hb) hn1 ((hP.take k hk).mono hb) hx)
 have HP:=Lib.hid hP
 have hpl:=Lib.hid hP.len
 have hps:np≤256:=by have:=openTo_len g g.length;have:=h'.len;unfold openL at hlp;omega
 have HPN:Hid (∀k,k<np→∃x:Nat,P[k]?.getD 0=(x:Int)∧x≤256):=fun k hk=>by
  have hk2:k<P.length:=by rw[hpl.out];exact hk
  have h1:=hPn _ (List.getElem_mem hk2)
  rw[List.getElem?_eq_getElem hk2]
  exact ⟨(P[k]).toNat,by simp only[Option.getD_some];omega,by omega⟩
 have HST:Hid (stpR ls sum g P=if deadR ls sum g P=false then some (P++[((aboveR g P 0:Nat):Int)]) else backP (plC [] 0 g) P.reverse):=rfl
 have HPT:Hid (P.take np=P):=List.take_of_length_le (by rw[hpl.out];exact Nat.le_refl _)
 have hlq:Hid (np≤(openL g).length):=hlp
 generalize hst9:stpR ls sum g P=so at HST ⊢
 clear hst9 h h' hP hPn G hlp
 go_enter Tryz.func96,Tryz.ntmps96
 go_upto_region 1 with fail
 have fsz:(w.alloc (.cells #[.int .i64 cells,.slice a n c,.int .i64 sum,.slice a' n' c'] 28)).heap.size=w.heap.size+1:=by simp only[World.size_alloc]
 have fB:Below w.heap.size w (w.alloc (.cells #[.int .i64 cells,.slice a n c,.int .i64 sum,.slice a' n' c'] 28)):=(Below.refl _ _).alloc (Nat.le_refl _) _
 have fq0:(w.alloc (.cells #[.int .i64 cells,.slice a n c,.int .i64 sum,.slice a' n' c'] 28)).heap[w.heap.size]?=some (.cells #[.int .i64 cells,.slice a n c,.int .i64 sum,.slice a' n' c'] 28 (0,0)):=by have h:=World.alloc_heap_new w (.cells #[.int .i64 cells,.slice a n c,.int .i64 sum,.slice a' n' c'] 28);exact h
 generalize (w.alloc (.cells #[.int .i64 cells,.slice a n c,.int .i64 sum,.slice a' n' c'] 28))=W0 at fsz fB fq0 ⊢
 have HQ:=Lib.hid fq0
 have x0:W0.cell? ⟨w.heap.size,0,none⟩=some (.int .i64 cells):=q_cell fq0 0
 have x1:W0.cell? ⟨w.heap.size,1,none⟩=some (.slice a n c):=q_cell fq0 1
 have x2:W0.cell? ⟨w.heap.size,2,none⟩=some (.int .i64 sum):=q_cell fq0 2
 have x3:W0.cell? ⟨w.heap.size,3,none⟩=some (.slice a' n' c'):=q_cell fq0 3
 have xl:=q_lt fq0
 have fsz':w.heap.size<W0.heap.size:=by omega
 clear fq0 fsz
 go_wp2_with fail
 refine (HDE.out W0 fB).mono ?_
 rintro _ w1 ⟨rfl,hb1⟩
 have hB1:=keep_trans fB hb1
 have HQ1:=Lib.hid (keepq hb1 HQ.out)
 clear x0 x1 x2 x3 xl HQ HDE hb1
 have x0:w1.cell? ⟨w.heap.size,0,none⟩=some (.int .i64 cells):=q_cell HQ1.out 0
 have x1:w1.cell? ⟨w.heap.size,1,none⟩=some (.slice a n c):=q_cell HQ1.out 1
 have x2:w1.cell? ⟨w.heap.size,2,none⟩=some (.int .i64 sum):=q_cell HQ1.out 2
 have x3:w1.cell? ⟨w.heap.size,3,none⟩=some (.slice a' n' c'):=q_cell HQ1.out 3
 have xl:=q_lt HQ1.out
 cases hde:deadR ls sum g P with
 | false =>
  rw[hde,if_pos rfl] at HST
  clear hde
  have HA0:=HAB.out np (Nat.le_refl _) 0 (by omega) w1 hB1
  rw[HPT.out] at HA0
  have hal:=aboveR_le g P 0
  generalize aboveR g P 0=x at HA0 HST hal
  go_wp2_with fail
  refine HA0.mono ?_
  rintro _ w2 ⟨rfl,hb2⟩
  have hB2:=keep_trans hB1 hb2
  have hownE:(w2.alloc (.cells #[] 3)).ownsRow w2.heap.size 3 1 (.slice (some ⟨w2.heap.size,0,none⟩) 0 0) 0 []:=⟨rfl,.inr ⟨w2.heap.size,0,#[],rfl,Nat.le_refl _,World.alloc_heap_new _ _,Nat.le_refl _,by unfold maxLen;omega,rfl,rfl⟩⟩
  have hSR:SrcOk (w2.alloc (.cells #[] 3)) ap np (P.map (Value.int .i64)):=(HP.out.mono (keep_alloc hB2 _)).src
  have hws:=hB2.size
  clear x0 x1 x2 x3 xl HA0 HAB
  go_upto_region 3 with fail
  go_wp2_with (first|(at_builtin;refine wpList_append_any _ rfl _ _ 25 rfl w2.heap.size 3 i0 (.int .i64 0) 8 Tryz.underlying25 hi hz0 hz1 hz2 rfl _ _ _ rfl hownE (by simp) _ _ _ (P.map (Value.int .i64)) rfl (by rw[List.length_map];exact hpl.out) hSR (by simp[Value.oneCell']) (by unfold maxLen;omega) (by omega) ?_;intro v5 w5 hown5 hst5 hk5;have hsz5:=hst5.size)|(at_builtin;refine wpList_append_any _ rfl _ _ 25 rfl w2.heap.size 3 i0 (.int .i64 0) 8 Tryz.underlying25 hi hz0 hz1 hz2 rfl _ _ _ rfl (hown5.alloc _) (by simp at hsz5 ⊢;omega) _ _ _ [.int .i64 (x:Int)] rfl rfl (.inl ⟨_,rfl,cell_one_new _ _ _⟩) (by simp[Value.oneCell']) (by unfold maxLen;omega) (by omega) ?_;intro v6 w6 hown6 hst6 hk6))
  go_ret
  refine ⟨v6,rfl,?_,two_appends hB2 (Nat.le_refl _) hst5 hk5 hst6⟩
  rw[HST.out]
  have o6:=owns_base hown6 hws
  simp only[Option.getD_some,List.length_append,List.map_append,hpl.out,List.map_cons,List.map_nil,List.length_cons,List.length_nil]
  simpa using o6
 | true =>
  rw[hde,if_neg (by decide)] at HST
  clear hde
  have hb0:Hid (backP (plC [] 0 g) P.reverse=backP (plC [] 0 g) (P.take np).reverse):=by unfold Hid;rw[HPT.out]
  have hnpi:(np:Int)≤256:=by omega
  go_wp2_with fail
  go_loopw [6,7] (fun kv _ wr=>∃j:Nat,j≤np∧kv = .int .i64 ((j:Int) - 1)∧Hid (backP (plC [] 0 g) P.reverse=backP (plC [] 0 g) (P.take j).reverse)∧Below w1.heap.size w1 wr) (fun kv _ _=>(intOf kv+1).toNat)
  case atStart=>exact ⟨np,Nat.le_refl _,by go_num,hb0,Below.refl _ _⟩
  case round =>
   obtain ⟨j,hj,rfl,hbk,hbr⟩:=hrel
   have hBr:=keep_trans hB1 hbr
   cases j with
   | zero =>
    have hE:Hid (so=none):=by unfold Hid;rw[HST.out,hbk.out,List.take_zero];rfl
    go_wp2_with fail
    go_ret
    exact ⟨_,rfl,by rw[hE.out];exact World.ownsRow_nil _ _ _ _,hBr⟩
   | succ k =>
    obtain ⟨xk,hxk,hx256⟩:=HPN.out k (by omega)
    have hbs:=back_step (g:=g) (P:=P) (k:=k) (by rw[hpl.out];omega)
    rw[hxk,Int.toNat_natCast] at hbs
    have HBS:=Lib.hid hbs
    obtain ⟨bp,op,rfl,hbp,hcp9⟩:=(HP.out.mono hBr).2 k (by omega)
    rw[hxk] at hcp9
    have y0:wr.cell? ⟨w.heap.size,0,none⟩=some (.int .i64 cells):=q_cell (keepq hbr HQ1.out) 0
    have y1:wr.cell? ⟨w.heap.size,1,none⟩=some (.slice a n c):=q_cell (keepq hbr HQ1.out) 1
    have y2:wr.cell? ⟨w.heap.size,2,none⟩=some (.int .i64 sum):=q_cell (keepq hbr HQ1.out) 2
    have y3:wr.cell? ⟨w.heap.size,3,none⟩=some (.slice a' n' c'):=q_cell (keepq hbr HQ1.out) 3
    have yl:=q_lt (keepq hbr HQ1.out)
    have HA0:=Lib.hid (HAB.out k (by omega) xk hx256)
    have hal:=aboveR_le g (P.take k) xk
    have hkl:(P.take k).length=k:=by rw[List.length_take,hpl.out];omega
    have HKL:=Lib.hid hkl
    have HPK:Hid (∀W,Below wr.heap.size wr W→SrcOk W (some ⟨bp,op,none⟩) k ((P.take k).map (Value.int .i64))):=fun W hb=>(((HP.out.mono hBr).take k (by omega)).mono hb).src
    have hz1:((k:Int)+1 - 1)=(k:Int):=by omega
    have hki:(k:Int)<(np:Int):=by omega
    have hki2:(k:Int)≤(cp:Int):=by omega
    have hki3:((k+1:Nat):Int) - 1=(k:Int):=by omega
    rw[hki3]
    generalize aboveR g (P.take k) xk=x at HA0 HBS hal
    clear x0 x1 x2 x3 xl hxk hbs hb0 HAB hkl hcp hz1
    by_cases hpos:0<x
    ·rw[if_pos hpos] at HBS
     have hE:Hid (so=some (P.take k++[(x:Int)])):=by unfold Hid;rw[HST.out,hbk.out,HBS.out]
     have hxi:(0:Int)<(x:Int):=by omega
     go_wp2_with fail
     refine wp_region_S (fun w'=>∃u,w'=over (wr) u) [9,8] [(0,0),(0,1),(0,2),(0,3),(0,4),(0,5),(0,6),(0,7),(2,8),(2,9)] (by kernel_rfl) (by kernel_rfl) (by exact ⟨_,below_over (by repeat (first|assumption|exact Below.refl _ _|refine keep_drew ?_|refine keep_alloc ?_ _|refine keep_trans ?_ (by assumption)))⟩) ?_
     dsimp only[pickOps,nthOp]
     repeat (first|(refine wpS_skip rfl (fun K hK=>?_);go_big_quiet_op;refine hK _ ?_;clear hK K)|(refine wpS_quiet rfl rfl (fun K hK=>?_);go_big_quiet_op;refine hK _ ?_;clear hK K))
     refine wpS_late _ _ _ rfl ?_
     dsimp only[List.map]
     go_wp2_with (go_at_call 136;refine (HA0.out _ (keep_drew hBr)).mono ?_;rintro _ w2 ⟨rfl,hb2⟩)
     refine NoPanic.normal ?_
     have hb2r:Below wr.heap.size wr w2:=keep_trans (keep_drew (Below.refl _ _)) hb2
     have hB2:=keep_trans hBr hb2r
     have hownE:(w2.alloc (.cells #[] 3)).ownsRow w2.heap.size 3 1 (.slice (some ⟨w2.heap.size,0,none⟩) 0 0) 0 []:=⟨rfl,.inr ⟨w2.heap.size,0,#[],rfl,Nat.le_refl _,World.alloc_heap_new _ _,Nat.le_refl _,by unfold maxLen;omega,rfl,rfl⟩⟩
     have hSR:SrcOk (w2.alloc (.cells #[] 3)) (some ⟨bp,op,none⟩) k ((P.take k).map (Value.int .i64)):=HPK.out _ (keep_alloc hb2r _)
     have hws:=hB2.size
     clear y0 y1 y2 y3 yl hcp9
     go_wp2_with (first|(at_builtin;refine wpList_append_any _ rfl _ _ 25 rfl w2.heap.size 3 i0 (.int .i64 0) 8 Tryz.underlying25 hi hz0 hz1 hz2 rfl _ _ _ rfl hownE (by simp) _ _ _ ((P.take k).map (Value.int .i64)) rfl (by rw[List.length_map];exact HKL.out) hSR (ints_one _) (by unfold maxLen;omega) (by omega) ?_;intro v5 w5 hown5 hst5 hk5;have hsz5:=hst5.size)|(at_builtin;refine wpList_append_any _ rfl _ _ 25 rfl w2.heap.size 3 i0 (.int .i64 0) 8 Tryz.underlying25 hi hz0 hz1 hz2 rfl _ _ _ rfl (hown5.alloc _) (by simp at hsz5 ⊢;omega) _ _ _ [.int .i64 (x:Int)] rfl rfl (.inl ⟨_,rfl,cell_one_new _ _ _⟩) (by simp[Value.oneCell']) (by unfold maxLen;omega) (by omega) ?_;intro v6 w6 hown6 hst6 hk6))
     go_ret
     refine ⟨v6,rfl,?_,two_appends hB2 (Nat.le_refl _) hst5 hk5 hst6⟩
     rw[hE.out]
     have o6:=owns_base hown6 hws
     simp only[Option.getD_some,List.length_append,List.map_append,HKL.out,List.map_cons,List.map_nil,List.length_cons,List.length_nil]
     simpa using o6
    ·rw[if_neg hpos] at HBS
     have hx0:x=0:=by omega
     subst hx0
     go_wp2_with fail
     refine wp_region_S (fun w'=>∃u,w'=over (wr) u) [9,8] [(0,0),(0,1),(0,2),(0,3),(0,4),(0,5),(0,6),(0,7),(2,8),(2,9)] (by kernel_rfl) (by kernel_rfl) (by exact ⟨_,below_over (by repeat (first|assumption|exact Below.refl _ _|refine keep_drew ?_|refine keep_alloc ?_ _|refine keep_trans ?_ (by assumption)))⟩) ?_
     dsimp only[pickOps,nthOp]
     repeat (first|(refine wpS_skip rfl (fun K hK=>?_);go_big_quiet_op;refine hK _ ?_;clear hK K)|(refine wpS_quiet rfl rfl (fun K hK=>?_);go_big_quiet_op;refine hK _ ?_;clear hK K))
     refine wpS_late _ _ _ rfl ?_
     dsimp only[List.map]
     go_wp2_with (go_at_call 136;refine (HA0.out _ (keep_drew hBr)).mono ?_;rintro _ w2 ⟨rfl,hb2⟩)
     refine NoPanic.normal ?_
     have hb2r:Below wr.heap.size wr w2:=keep_trans (keep_drew (Below.refl _ _)) hb2
     go_wp2_with fail
     go_roundw
     case rel=>exact ⟨k,by omega,by go_num,hbk.out.trans HBS.out,keep_trans hbr hb2r⟩
     case measure=>simp[intOf]
end
section
open Go Go.RowKit
abbrev Sta:=List Int × Int × Bool
def goR (ls:List (List Int)) (sum:Int) (g:List Int):Nat→Sta→Sta × List (List Int)
 | 0,s=>(s,[])
 | k+1,s=>if s.2.2=true then (s,[]) else match stpR ls sum g s.1 with
  | none=>(([],s.2.1,true),[])
  | some P'=>((goR ls sum g k (P',s.2.1+1,false)).1,(if foundR ls sum g P'=true then [fillG g P'] else [])++(goR ls sum g k (P',s.2.1+1,false)).2)
def preR (ls:List (List Int)) (sum:Int) (g:List Int) (B:Nat) (d:Bool):List (List Int) :=
 if 0<B∧d=false∧(openL g).length=0∧foundR ls sum g []=true then [fillG g []] else []
def contR (ls:List (List Int)) (sum:Int) (g:List Int) (B:Nat) (s:Sta):Sta × List (List Int) :=
 ((goR ls sum g B s).1,preR ls sum g B s.2.2++(goR ls sum g B s).2)
theorem goR_done (ls:List (List Int)) (sum:Int) (g:List Int) (k:Nat) (s:Sta) (h:s.2.2=true):goR ls sum g k s=(s,[]):=by
 cases k with
 | zero=>rfl
 | succ k=>simp only[goR];rw[if_pos h]
theorem stpR_ok {cells:Int} {ls:List (List Int)} {sum:Int} {g:List Int} (G:GoodTask cells ls sum g) {P P':List Int} (ho:OkG g P) (h:stpR ls sum g P=some P'):OkG g P':=by
 have ho2:OkP (gC cells ls sum g) P:=⟨ho.1,ho.2,ho.3⟩
 unfold stpR at h
 split at h
 ·rename_i hd
  cases h
  have hne:P.length≠(openL g).length:=by
   unfold deadR at hd
   simp only[Bool.or_eq_false_iff,beq_eq_false_iff_ne] at hd
   exact hd.1
  have hl:P.length<(openL g).length:=by have:=ho.len;omega
  have ha:=above_left (above_first (gC_even G) (gC_fine G) (P:=P) hl)
  have h2:=ho2.push hl ha.1 ha.2
  exact ⟨h2.1,h2.2,h2.3⟩
 ·have h2:backP (gC cells ls sum g) P.reverse=some P':=by
   have e:∀R,backP (gC cells ls sum g) R=backP (plC [] 0 g) R:=fun R=>by
    induction R with
    | nil=>rfl
    | cons x R ih=>unfold backP;rw[ih];rfl
   rw[e];exact h
  have h3:=backP_ok P.reverse P' (by rw[List.reverse_reverse];exact ho2) h2
  exact ⟨h3.1,h3.2,h3.3⟩
theorem backP_ne {C:Cst}:∀(R P':List Int),backP C R=some P'→P'≠[]
 | [],_,h=>by cases h
 | x :: R,P',h=>by
  unfold backP at h
  split at h
  ·cases h;simp
  ·exact backP_ne R P' h
theorem stpR_ne {ls:List (List Int)} {sum:Int} {g P P':List Int} (h:stpR ls sum g P=some P'):P'≠[]:=by
 unfold stpR at h
 split at h
 ·cases h;simp
 ·exact backP_ne _ _ h
theorem IC.stays {S:Nat→Prop} {W W':World} {a:Option Addr} {n:Nat} {xs:List Int} (h:IC W a n xs) (hs:Stays S W W') (hn:∀b o,0<n→a=some ⟨b,o,none⟩→¬S b):IC W' a n xs :=
 ⟨h.1,fun k hk=>by
  obtain ⟨b,off,e,hlt,hc⟩:=h.2 k hk
  exact ⟨b,off,e,Nat.lt_of_lt_of_le hlt hs.size,(hs.cell hlt (hn b off (by omega) e)).trans hc⟩⟩
def noB:Nat→Prop:=fun _=>False
theorem RowsI.below {W W':World} {L:Nat} {v:Value} {pre:List (Value × List Int)} (h:RowsI W noB L v pre) (hb:Below W.heap.size W W'):RowsI W' noB L v pre :=
 ⟨owns_keep h.1 (fun k _ hl=>hb.block k hl),h.2.1,fun x hx=>⟨owns_keep (h.2.2 x hx).1 (fun k _ hl=>hb.block k hl),(h.2.2 x hx).2⟩⟩
def PathC (W:World) (L0 L:Nat) (v:Value) (ax:Option Addr) (nx cx:Nat) (P:List Int):Prop :=
 (IC W ax nx P∧nx≤cx)∧∀b o,0<nx→ax=some ⟨b,o,none⟩→(b<L0∨L≤b)∧v.ownBlock≠some b
theorem PathC.nil (W:World) (L0 L:Nat) (v:Value):PathC W L0 L v none 0 0 []:=⟨⟨IC.nil _,Nat.le_refl _⟩,fun b o h _=>absurd h (by omega)⟩
theorem PathC.below {W W':World} {L0 L:Nat} {v:Value} {ax:Option Addr} {nx cx:Nat} {P:List Int} (h:PathC W L0 L v ax nx cx P) (hb:Below W.heap.size W W'):PathC W' L0 L v ax nx cx P :=
 ⟨⟨h.1.1.mono hb,h.1.2⟩,h.2⟩
theorem PathC.set {W:World} {L0 L:Nat} {v:Value} {ax:Option Addr} {nx cx:Nat} {P:List Int} (h:PathC W L0 L v ax nx cx P) {b i:Nat} (h0:L0≤b) (h1:b<L) (u:Value):PathC (W.setCell ⟨b,i,none⟩ u) L0 L v ax nx cx P :=
 ⟨⟨h.1.1.stays (Stays.setCell (S:=fun k=>k=b) W (p:=⟨b,i,none⟩) rfl u) (fun b' o hn e e2=>by have:=(h.2 b' o hn e).1;omega),h.1.2⟩,h.2⟩
theorem PathC.grow {W W':World} {L0 L:Nat} {v v':Value} {ax:Option Addr} {nx cx:Nat} {P:List Int} (h:PathC W L0 L v ax nx cx P) (hs:Stays (fun k=>v.ownBlock=some k) W W') (hk:∀k,v'.ownBlock=some k→v.ownBlock=some k∨W.heap.size≤k):PathC W' L0 L v' ax nx cx P:=by
 have hlt:∀b o,0<nx→ax=some ⟨b,o,none⟩→b<W.heap.size:=fun b o hn e=>by
  obtain ⟨b2,o2,e2,hl,_⟩:=h.1.1.2 0 hn
  rw[e] at e2
  cases e2
  exact hl
 refine ⟨⟨h.1.1.stays hs (fun b o hn e=>(h.2 b o hn e).2),h.1.2⟩,fun b o hn e=>⟨(h.2 b o hn e).1,fun e2=>?_⟩⟩
 rcases hk b e2 with e3|e3
 ·exact (h.2 b o hn e).2 e3
 ·have:=hlt b o hn e;omega
theorem PathC.fresh {W':World} {L0 L B:Nat} {v:Value} {ax:Option Addr} {nx cx:Nat} {P:List Int} (h:W'.ownsRow B 3 1 (.slice ax nx cx) P.length (P.map (Value.int .i64))) (hn:P.length≤17592186044416) (hB:L≤B) (hv:∀k,v.ownBlock=some k→k<B):PathC W' L0 L v ax P.length cx P:=by
 have hnx:nx=P.length:=by
  rcases h.2 with ⟨e,e2⟩|⟨_,_,_,e,_,_,e3,_⟩
  ·simp only[Value.slice.injEq] at e;omega
  ·simp only[Value.slice.injEq] at e;omega
 subst hnx
 have hi:=IC.of_owns h hn
 refine ⟨hi,fun b o h0 e=>?_⟩
 subst e
 have h1:(Value.slice (some ⟨b,o,none⟩) P.length cx).ownBlock=some b:=rfl
 have h2:=(h.lt b h1).1
 exact ⟨.inr (by omega),fun e2=>by have:=hv b e2;omega⟩
end
end Go.Proofs.YtcblpobiefmjmaaGreat
