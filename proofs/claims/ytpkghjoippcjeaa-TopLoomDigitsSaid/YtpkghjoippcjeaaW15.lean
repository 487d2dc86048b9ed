/- Texts J190 to J193 of this proof, in one file. -/
import Derived.Test.YtpkghjoippcjeaaW10
import Derived.Test.YtpkghjoippcjeaaW14
import Derived.StringKeys
import Derived.Carry
import Derived.Laws.EntriesVeiled
namespace Go.Proofs.Ytpkghjoippcjeaa
set_option maxRecDepth 100000
set_option maxHeartbeats 16000000
section
open Go Go.RowKit
attribute [local go_sem] over_cell
attribute [local go_sem] Oper.semAt_some
theorem IC.new4 (w:World) (x y z t:Int) (T:TypeId):IC (w.alloc (.cells #[.int .i64 x,.int .i64 y,.int .i64 z,.int .i64 t] T)) (some ⟨w.heap.size,0,none⟩) 4 [x,y,z,t] :=
 ⟨⟨rfl,by omega⟩,fun k hk=>⟨w.heap.size,0,rfl,by simp,by
  rw[box_cells]
  match k,hk with
  | 0,_=>rfl
  | 1,_=>rfl
  | 2,_=>rfl
  | 3,_=>rfl⟩⟩
theorem IC.new6 (w:World) (x y z t u v:Int) (T:TypeId):IC (w.alloc (.cells #[.int .i64 x,.int .i64 y,.int .i64 z,.int .i64 t,.int .i64 u,.int .i64 v] T)) (some ⟨w.heap.size,0,none⟩) 6 [x,y,z,t,u,v] :=
 ⟨⟨rfl,by omega⟩,fun k hk=>⟨w.heap.size,0,rfl,by simp,by
  rw[box_cells]
  match k,hk with
  | 0,_=>rfl
  | 1,_=>rfl
  | 2,_=>rfl
  | 3,_=>rfl
  | 4,_=>rfl
  | 5,_=>rfl⟩⟩
def NearI (x:Int):Prop := -999999999≤x∧x≤999999999
theorem ufar_c (x:Int) (w:World) (h:NearI x):Calls Try.prog 38 #[.int .i64 x] w fun e w'=>e = .returned (.bool false)∧w=w':=by
 have hd1:decide (x < -999999999)=false:=decide_eq_false (by have:=h.1;omega)
 have hd2:decide ((999999999:Int)<x)=false:=decide_eq_false (by have:=h.2;omega)
 clear h
 go_enter Try.func38,Try.ntmps38
 go_wp2
 go_ret
 exact ⟨rfl,rfl⟩
theorem ustep_c (n:Nat) (a0 a1 b0 b1 c0 c1:Int) (w:World) (h1:1≤n) (h2:n≤16) (hn:∀x,x∈[a0,a1,b0,b1,c0,c1]→NearI x) :
  Calls Try.prog 18 #[.agg #[.int .i64 (n:Int),.int .i64 a0,.int .i64 a1,.int .i64 b0,.int .i64 b1,.int .i64 c0,.int .i64 c1]] w fun e w'=>e = .returned (.int .i64 0)∧Below w.heap.size w w':=by
 have F0:=Lib.hid (fun W=>ufar_c a0 W (hn _ (by simp)))
 have F1:=Lib.hid (fun W=>ufar_c a1 W (hn _ (by simp)))
 have F2:=Lib.hid (fun W=>ufar_c b0 W (hn _ (by simp)))
 have F3:=Lib.hid (fun W=>ufar_c b1 W (hn _ (by simp)))
 have F4:=Lib.hid (fun W=>ufar_c c0 W (hn _ (by simp)))
 have F5:=Lib.hid (fun W=>ufar_c c1 W (hn _ (by simp)))
 have HO:=Lib.hid (fun W=>uorder_c n h1 h2 W)
 have HF:Hid (firstL [0,whenV false 3]=0):=rfl
 clear hn
 go_enter Try.func18,Try.ntmps18
 go_upto_region 1 with fail
 have fsz:(w.alloc (.cells #[.int .i64 (n:Int),.int .i64 a0,.int .i64 a1,.int .i64 b0,.int .i64 b1,.int .i64 c0,.int .i64 c1] 24)).heap.size=w.heap.size+1:=by simp only[World.size_alloc]
 have fB:Below w.heap.size w (w.alloc (.cells #[.int .i64 (n:Int),.int .i64 a0,.int .i64 a1,.int .i64 b0,.int .i64 b1,.int .i64 c0,.int .i64 c1] 24)):=(Below.refl _ _).alloc (Nat.le_refl _) _
 have fq0:(w.alloc (.cells #[.int .i64 (n:Int),.int .i64 a0,.int .i64 a1,.int .i64 b0,.int .i64 b1,.int .i64 c0,.int .i64 c1] 24)).heap[w.heap.size]?=some (.cells #[.int .i64 (n:Int),.int .i64 a0,.int .i64 a1,.int .i64 b0,.int .i64 b1,.int .i64 c0,.int .i64 c1] 24 (0,0)):=by have h:=World.alloc_heap_new w (.cells #[.int .i64 (n:Int),.int .i64 a0,.int .i64 a1,.int .i64 b0,.int .i64 b1,.int .i64 c0,.int .i64 c1] 24);exact h
 generalize (w.alloc (.cells #[.int .i64 (n:Int),.int .i64 a0,.int .i64 a1,.int .i64 b0,.int .i64 b1,.int .i64 c0,.int .i64 c1] 24))=W0 at fsz fB fq0 ⊢
 obtain ⟨⟨t0,t1,t2,t3,t4,t5,t6,tl⟩,_⟩:=c7_of fq0
 clear fsz fq0
 go_wp2_with (first|(go_at_call 38;(first|(with_reducible refine (F0.out _).mono ?_)|(with_reducible refine (F1.out _).mono ?_)|(with_reducible refine (F2.out _).mono ?_)|(with_reducible refine (F3.out _).mono ?_)|(with_reducible refine (F4.out _).mono ?_)|(with_reducible refine (F5.out _).mono ?_));rintro _ w3 ⟨rfl,rfl⟩)|(go_at_call 39;refine (HO.out _).mono ?_;rintro _ w1 ⟨rfl,rfl⟩)|(go_at_call 21;refine (uwhen_c _ _ _).mono ?_;rintro _ w3 ⟨rfl,rfl⟩)|(go_at_call 33;refine (ufirst_c _ _ _ _ _ (IC.new2 _ _ _ _)).mono ?_;rw[HF.out];rintro _ w4 ⟨rfl,rfl⟩))
 go_ret
 exact ⟨rfl,keep_alloc fB _⟩
theorem enterPr:∀args w,Sem.run Try.prog (callFunc 92 args) w = .ok (.enter 92 args) w:=by
 intro args w;kernel_rfl
theorem uprim1_c (x:Int) (n:Nat) (u1 u2 u3 u4 u5 u6:Value) (b:Nat) (w:World) (h1:1≤n) (h2:n≤16) (hq:w.heap[b]?=some (.cells #[.int .i64 (n:Int),u1,u2,u3,u4,u5,u6] 53 (0,0))) :
  Calls Try.prog 92 #[.int .i64 x,.pointer (some ⟨b,0,none⟩)] w fun e w'=>e = .returned (.bool (((Int.gcd x (n:Int):Nat):Int) != 1))∧Below w.heap.size w w':=by
 have HG:=Lib.hid (fun W=>ugcd_c x n W h1 h2)
 generalize ((Int.gcd x (n:Int):Nat):Int)=g at HG ⊢
 obtain ⟨⟨t0,t1,t2,t3,t4,t5,t6,tl⟩,_⟩:=c7_of hq
 clear hq
 go_enter Try.func92,Try.ntmps92
 go_wp2_with (first|(go_at_call 93;refine (HG.out _).mono ?_;rintro _ w1 ⟨rfl,hb1⟩)|fail)
 go_ret
 exact ⟨rfl,hb1⟩
def primB (n:Nat) (l:List Int):Bool:=l.all fun x=>Int.gcd x (n:Int)==1
theorem uprime_c (r:Rul) (a:Option Addr) (m c:Nat) (l:List Int) (w:World) (hr:r.ok) (h:IC w a m l) :
  Calls Try.prog 85 #[r.val,.slice a m c] w fun e w'=>e = .returned (.bool (primB r.n l))∧Below w.heap.size w w':=by
 have HV:Hid (r.val = .agg #[.int .i64 (r.n:Int),.int .i64 (r.s0:Int),.int .i64 (r.s1:Int),.int .i64 (r.x0:Int),.int .i64 (r.x1:Int),.int .i64 (r.y0:Int),.int .i64 (r.y1:Int)]):=rfl
 rw[HV.out]
 have hn1:=hr.n1
 have hn2:=hr.n2
 have hlen:=h.len
 have HC:Hid (∀W,Below w.heap.size w W→∀b u1 u2 u3 u4 u5 u6,W.heap[b]?=some (.cells #[.int .i64 (r.n:Int),u1,u2,u3,u4,u5,u6] 53 (0,0))→Calls Try.prog 69 #[.slice a m c,.func (.func 92) #[] #[.pointer (some ⟨b,0,none⟩)]] W fun e w'=>e = .returned (.bool (!primB r.n l))∧Below W.heap.size W w'):=by
  intro W hb b u1 u2 u3 u4 u5 u6 hq
  refine (containsFuncI_c a m c l 92 #[.pointer (some ⟨b,0,none⟩)] (fun k=>((Int.gcd (l[k]?.getD 0) (r.n:Int):Nat):Int) != 1) W (h.mono hb) enterPr (fun k _ w' hb'=>uprim1_c _ r.n u1 u2 u3 u4 u5 u6 b w' hn1 hn2 (keepq hb' hq))).mono ?_
  rintro e w' ⟨rfl,hb'⟩
  refine ⟨ret_bool ?_,hb'⟩
  unfold anyP primB
  rw[Bool.eq_iff_iff,Bool.not_eq_true',List.all_eq_false,List.any_eq_true]
  constructor
  ·rintro ⟨k,hk,hne⟩
   rw[List.mem_range] at hk
   refine ⟨l[k]?.getD 0,?_,?_⟩
   ·rw[List.getElem?_eq_getElem (by omega)];exact List.getElem_mem _
   ·simp only[bne_iff_ne,beq_iff_eq] at hne ⊢;omega
  ·rintro ⟨x,hx,hne⟩
   obtain ⟨k,hk,rfl⟩:=List.getElem_of_mem hx
   refine ⟨k,List.mem_range.2 (by omega),?_⟩
   rw[List.getElem?_eq_getElem hk,Option.getD_some]
   simp only[bne_iff_ne,beq_iff_eq] at hne ⊢;omega
 generalize primB r.n l=B at HC ⊢
 clear h hr hlen
 go_enter Try.func85,Try.ntmps85
 go_upto_region 1 with fail
 have fsz:(w.alloc (.cells #[.int .i64 (r.n:Int),.int .i64 (r.s0:Int),.int .i64 (r.s1:Int),.int .i64 (r.x0:Int),.int .i64 (r.x1:Int),.int .i64 (r.y0:Int),.int .i64 (r.y1:Int)] 53)).heap.size=w.heap.size+1:=by simp only[World.size_alloc]
 have fB:Below w.heap.size w (w.alloc (.cells #[.int .i64 (r.n:Int),.int .i64 (r.s0:Int),.int .i64 (r.s1:Int),.int .i64 (r.x0:Int),.int .i64 (r.x1:Int),.int .i64 (r.y0:Int),.int .i64 (r.y1:Int)] 53)):=(Below.refl _ _).alloc (Nat.le_refl _) _
 have fq0:(w.alloc (.cells #[.int .i64 (r.n:Int),.int .i64 (r.s0:Int),.int .i64 (r.s1:Int),.int .i64 (r.x0:Int),.int .i64 (r.x1:Int),.int .i64 (r.y0:Int),.int .i64 (r.y1:Int)] 53)).heap[w.heap.size]?=some (.cells #[.int .i64 (r.n:Int),.int .i64 (r.s0:Int),.int .i64 (r.s1:Int),.int .i64 (r.x0:Int),.int .i64 (r.x1:Int),.int .i64 (r.y0:Int),.int .i64 (r.y1:Int)] 53 (0,0)):=by have h:=World.alloc_heap_new w (.cells #[.int .i64 (r.n:Int),.int .i64 (r.s0:Int),.int .i64 (r.s1:Int),.int .i64 (r.x0:Int),.int .i64 (r.x1:Int),.int .i64 (r.y0:Int),.int .i64 (r.y1:Int)] 53);exact h
 generalize (w.alloc (.cells #[.int .i64 (r.n:Int),.int .i64 (r.s0:Int),.int .i64 (r.s1:Int),.int .i64 (r.x0:Int),.int .i64 (r.x1:Int),.int .i64 (r.y0:Int),.int .i64 (r.y1:Int)] 53))=W0 at fsz fB fq0 ⊢
 have HC0:=Lib.hid (HC.out W0 fB _ _ _ _ _ _ _ fq0)
 clear fsz fq0 HC
 go_wp2_with (first|(go_at_call 69;refine HC0.out.mono ?_;rintro _ w1 ⟨rfl,hb1⟩)|fail)
 go_ret
 exact ⟨ret_bool (by simp),keep_trans fB hb1⟩
end
section
open Go Go.RowKit
attribute [local go_sem] over_cell
attribute [local go_sem] Oper.semAt_some
def Rul.sqB (r:Rul):Bool:=primB r.n [(r.x0:Int)*(r.y1:Int) - (r.x1:Int)*(r.y0:Int)]
def Rul.semB (r:Rul):Bool:=r.sqB&&primB r.n [(r.x0:Int),(r.x1:Int),(r.y0:Int),(r.y1:Int)]
def Rul.panB (r:Rul):Bool:=r.semB&&primB r.n [(r.x0:Int) - (r.x1:Int),(r.x0:Int)+(r.x1:Int),(r.y0:Int) - (r.y1:Int),(r.y0:Int)+(r.y1:Int)]
theorem primB_1 {n:Nat} {a:Int}:primB n [a]=true↔Int.gcd a (n:Int)=1:=by simp[primB]
theorem primB_4 {n:Nat} {a b c d:Int}:primB n [a,b,c,d]=true↔Int.gcd a (n:Int)=1∧Int.gcd b (n:Int)=1∧Int.gcd c (n:Int)=1∧Int.gcd d (n:Int)=1:=by simp[primB]
theorem Rul.sem_iff (r:Rul):r.semB=true↔SemC r.n r.x0 r.x1 r.y0 r.y1:=by
 unfold Rul.semB Rul.sqB SemC
 rw[Bool.and_eq_true,primB_1,primB_4]
theorem Rul.pan_iff (r:Rul):r.panB=true↔PanC r.n r.x0 r.x1 r.y0 r.y1:=by
 unfold Rul.panB PanC
 rw[Bool.and_eq_true,Rul.sem_iff,primB_4]
theorem usquare_c (r:Rul) (w:World) (hr:r.ok):Calls Try.prog 71 #[r.val] w fun e w'=>e = .returned (.bool r.sqB)∧Below w.heap.size w w':=by
 have HV:Hid (r.val = .agg #[.int .i64 (r.n:Int),.int .i64 (r.s0:Int),.int .i64 (r.s1:Int),.int .i64 (r.x0:Int),.int .i64 (r.x1:Int),.int .i64 (r.y0:Int),.int .i64 (r.y1:Int)]):=rfl
 obtain ⟨p,hp⟩:∃p,p=r.x0*r.y1:=⟨_,rfl⟩
 obtain ⟨q,hq⟩:∃q,q=r.x1*r.y0:=⟨_,rfl⟩
 have hn2:=hr.n2
 have bx0:=hr.x0
 have bx1:=hr.x1
 have by0:=hr.y0
 have by1:=hr.y1
 have hp2:p≤256:=by rw[hp];exact Nat.mul_le_mul (show r.x0≤16 by omega) (show r.y1≤16 by omega)
 have hq2:q≤256:=by rw[hq];exact Nat.mul_le_mul (show r.x1≤16 by omega) (show r.y0≤16 by omega)
 have hp1:(r.x0:Int)*(r.y1:Int)=(p:Int):=by rw[hp,Int.natCast_mul]
 have hq1:(r.x1:Int)*(r.y0:Int)=(q:Int):=by rw[hq,Int.natCast_mul]
 have HPR:=Lib.hid (fun a m c (l:List Int) W (h:IC W a m l)=>uprime_c r a m c l W hr h)
 have HE:Hid (r.sqB=primB r.n [(p:Int) - (q:Int)]):=by unfold Hid Rul.sqB;rw[hp1,hq1]
 rw[HE.out]
 rw[HV.out] at HPR ⊢
 clear HE hp hq hr
 obtain ⟨n,s0,s1,x0,x1,y0,y1⟩:=r
 dsimp only at *
 go_enter Try.func71,Try.ntmps71
 go_upto_region 1 with fail
 have fsz:(w.alloc (.cells #[.int .i64 (n:Int),.int .i64 (s0:Int),.int .i64 (s1:Int),.int .i64 (x0:Int),.int .i64 (x1:Int),.int .i64 (y0:Int),.int .i64 (y1:Int)] 53)).heap.size=w.heap.size+1:=by simp only[World.size_alloc]
 have fB:Below w.heap.size w (w.alloc (.cells #[.int .i64 (n:Int),.int .i64 (s0:Int),.int .i64 (s1:Int),.int .i64 (x0:Int),.int .i64 (x1:Int),.int .i64 (y0:Int),.int .i64 (y1:Int)] 53)):=(Below.refl _ _).alloc (Nat.le_refl _) _
 have fq0:(w.alloc (.cells #[.int .i64 (n:Int),.int .i64 (s0:Int),.int .i64 (s1:Int),.int .i64 (x0:Int),.int .i64 (x1:Int),.int .i64 (y0:Int),.int .i64 (y1:Int)] 53)).heap[w.heap.size]?=some (.cells #[.int .i64 (n:Int),.int .i64 (s0:Int),.int .i64 (s1:Int),.int .i64 (x0:Int),.int .i64 (x1:Int),.int .i64 (y0:Int),.int .i64 (y1:Int)] 53 (0,0)):=by have h:=World.alloc_heap_new w (.cells #[.int .i64 (n:Int),.int .i64 (s0:Int),.int .i64 (s1:Int),.int .i64 (x0:Int),.int .i64 (x1:Int),.int .i64 (y0:Int),.int .i64 (y1:Int)] 53);exact h
 generalize (w.alloc (.cells #[.int .i64 (n:Int),.int .i64 (s0:Int),.int .i64 (s1:Int),.int .i64 (x0:Int),.int .i64 (x1:Int),.int .i64 (y0:Int),.int .i64 (y1:Int)] 53))=W0 at fsz fB fq0 ⊢
 obtain ⟨⟨t0,t1,t2,t3,t4,t5,t6,tl⟩,_⟩:=c7_of fq0
 clear fsz fq0
 go_wp2_with (first|(go_at_call 85;refine (HPR.out _ _ _ [(p:Int) - (q:Int)] _ (IC.new1 _ _ _)).mono ?_;rintro _ w1 ⟨rfl,hb1⟩)|fail)
 go_ret
 exact ⟨rfl,keep_trans (keep_alloc fB _) hb1⟩
theorem usemi_c (r:Rul) (w:World) (hr:r.ok):Calls Try.prog 72 #[r.val] w fun e w'=>e = .returned (.bool r.semB)∧Below w.heap.size w w':=by
 have HV:Hid (r.val = .agg #[.int .i64 (r.n:Int),.int .i64 (r.s0:Int),.int .i64 (r.s1:Int),.int .i64 (r.x0:Int),.int .i64 (r.x1:Int),.int .i64 (r.y0:Int),.int .i64 (r.y1:Int)]):=rfl
 have HSQ:=Lib.hid (fun W=>usquare_c r W hr)
 have HPR:=Lib.hid (fun a m c (l:List Int) W (h:IC W a m l)=>uprime_c r a m c l W hr h)
 have HE:Hid (r.semB=(r.sqB&&primB r.n [(r.x0:Int),(r.x1:Int),(r.y0:Int),(r.y1:Int)])):=rfl
 rw[HE.out]
 rw[HV.out] at HPR HSQ ⊢
 generalize r.sqB=B at HSQ HE ⊢
 clear HE hr HV
 obtain ⟨n,s0,s1,x0,x1,y0,y1⟩:=r
 dsimp only at *
 cases B
 ·go_enter Try.func72,Try.ntmps72
  go_upto_region 1 with fail
  have fsz:(w.alloc (.cells #[.int .i64 (n:Int),.int .i64 (s0:Int),.int .i64 (s1:Int),.int .i64 (x0:Int),.int .i64 (x1:Int),.int .i64 (y0:Int),.int .i64 (y1:Int)] 53)).heap.size=w.heap.size+1:=by simp only[World.size_alloc]
  have fB:Below w.heap.size w (w.alloc (.cells #[.int .i64 (n:Int),.int .i64 (s0:Int),.int .i64 (s1:Int),.int .i64 (x0:Int),.int .i64 (x1:Int),.int .i64 (y0:Int),.int .i64 (y1:Int)] 53)):=(Below.refl _ _).alloc (Nat.le_refl _) _
  have fq0:(w.alloc (.cells #[.int .i64 (n:Int),.int .i64 (s0:Int),.int .i64 (s1:Int),.int .i64 (x0:Int),.int .i64 (x1:Int),.int .i64 (y0:Int),.int .i64 (y1:Int)] 53)).heap[w.heap.size]?=some (.cells #[.int .i64 (n:Int),.int .i64 (s0:Int),.int .i64 (s1:Int),.int .i64 (x0:Int),.int .i64 (x1:Int),.int .i64 (y0:Int),.int .i64 (y1:Int)] 53 (0,0)):=by have h:=World.alloc_heap_new w (.cells #[.int .i64 (n:Int),.int .i64 (s0:Int),.int .i64 (s1:Int),.int .i64 (x0:Int),.int .i64 (x1:Int),.int .i64 (y0:Int),.int .i64 (y1:Int)] 53);exact h
  generalize (w.alloc (.cells #[.int .i64 (n:Int),.int .i64 (s0:Int),.int .i64 (s1:Int),.int .i64 (x0:Int),.int .i64 (x1:Int),.int .i64 (y0:Int),.int .i64 (y1:Int)] 53))=W0 at fsz fB fq0 ⊢
  obtain ⟨⟨t0,t1,t2,t3,t4,t5,t6,tl⟩,_⟩:=c7_of fq0
  clear fsz fq0
  go_wp2_with (first|(go_at_call 71;refine (HSQ.out _).mono ?_;rintro _ w1 ⟨rfl,hb1⟩)|fail)
  go_ret
  exact ⟨rfl,keep_trans fB hb1⟩
 ·go_enter Try.func72,Try.ntmps72
  go_upto_region 1 with fail
  have fsz:(w.alloc (.cells #[.int .i64 (n:Int),.int .i64 (s0:Int),.int .i64 (s1:Int),.int .i64 (x0:Int),.int .i64 (x1:Int),.int .i64 (y0:Int),.int .i64 (y1:Int)] 53)).heap.size=w.heap.size+1:=by simp only[World.size_alloc]
  have fB:Below w.heap.size w (w.alloc (.cells #[.int .i64 (n:Int),.int .i64 (s0:Int),.int .i64 (s1:Int),.int .i64 (x0:Int),.int .i64 (x1:Int),.int .i64 (y0:Int),.int .i64 (y1:Int)] 53)):=(Below.refl _ _).alloc (Nat.le_refl _) _
  have fq0:(w.alloc (.cells #[.int .i64 (n:Int),.int .i64 (s0:Int),.int .i64 (s1:Int),.int .i64 (x0:Int),.int .i64 (x1:Int),.int .i64 (y0:Int),.int .i64 (y1:Int)] 53)).heap[w.heap.size]?=some (.cells #[.int .i64 (n:Int),.int .i64 (s0:Int),.int .i64 (s1:Int),.int .i64 (x0:Int),.int .i64 (x1:Int),.int .i64 (y0:Int),.int .i64 (y1:Int)] 53 (0,0)):=by have h:=World.alloc_heap_new w (.cells #[.int .i64 (n:Int),.int .i64 (s0:Int),.int .i64 (s1:Int),.int .i64 (x0:Int),.int .i64 (x1:Int),.int .i64 (y0:Int),.int .i64 (y1:Int)] 53);exact h
  generalize (w.alloc (.cells #[.int .i64 (n:Int),.int .i64 (s0:Int),.int .i64 (s1:Int),.int .i64 (x0:Int),.int .i64 (x1:Int),.int .i64 (y0:Int),.int .i64 (y1:Int)] 53))=W0 at fsz fB fq0 ⊢
  have Q0:=Lib.hid fq0
  obtain ⟨⟨t0,t1,t2,t3,t4,t5,t6,tl⟩,_⟩:=c7_of fq0
  clear fsz fq0
  go_wp2_with (first|(go_at_call 71;refine (HSQ.out _).mono ?_;rintro _ w1 ⟨rfl,hb1⟩;clear t0 t1 t2 t3 t4 t5 t6 tl;obtain ⟨⟨t0,t1,t2,t3,t4,t5,t6,tl⟩,_⟩:=c7_of (keepq hb1 Q0.out))|(go_at_call 85;refine (HPR.out _ _ _ [(x0:Int),(x1:Int),(y0:Int),(y1:Int)] _ (IC.new4 _ _ _ _ _ _)).mono ?_;rintro _ w2 ⟨rfl,hb2⟩)|fail)
  go_ret
  exact ⟨rfl,keep_trans (keep_alloc (keep_trans fB hb1) _) hb2⟩
theorem upan_c (r:Rul) (w:World) (hr:r.ok):Calls Try.prog 74 #[r.val] w fun e w'=>e = .returned (.bool r.panB)∧Below w.heap.size w w':=by
 have HV:Hid (r.val = .agg #[.int .i64 (r.n:Int),.int .i64 (r.s0:Int),.int .i64 (r.s1:Int),.int .i64 (r.x0:Int),.int .i64 (r.x1:Int),.int .i64 (r.y0:Int),.int .i64 (r.y1:Int)]):=rfl
 have hn2:=hr.n2
 have bx0:=hr.x0
 have bx1:=hr.x1
 have by0:=hr.y0
 have by1:=hr.y1
 have HSQ:=Lib.hid (fun W=>usemi_c r W hr)
 have HPR:=Lib.hid (fun a m c (l:List Int) W (h:IC W a m l)=>uprime_c r a m c l W hr h)
 have HE:Hid (r.panB=(r.semB&&primB r.n [(r.x0:Int) - (r.x1:Int),(r.x0:Int)+(r.x1:Int),(r.y0:Int) - (r.y1:Int),(r.y0:Int)+(r.y1:Int)])):=rfl
 rw[HE.out]
 rw[HV.out] at HPR HSQ ⊢
 generalize r.semB=B at HSQ HE ⊢
 clear HE hr HV
 obtain ⟨n,s0,s1,x0,x1,y0,y1⟩:=r
 dsimp only at *
 cases B
 ·go_enter Try.func74,Try.ntmps74
  go_upto_region 1 with fail
  have fsz:(w.alloc (.cells #[.int .i64 (n:Int),.int .i64 (s0:Int),.int .i64 (s1:Int),.int .i64 (x0:Int),.int .i64 (x1:Int),.int .i64 (y0:Int),.int .i64 (y1:Int)] 53)).heap.size=w.heap.size+1:=by simp only[World.size_alloc]
  have fB:Below w.heap.size w (w.alloc (.cells #[.int .i64 (n:Int),.int .i64 (s0:Int),.int .i64 (s1:Int),.int .i64 (x0:Int),.int .i64 (x1:Int),.int .i64 (y0:Int),.int .i64 (y1:Int)] 53)):=(Below.refl _ _).alloc (Nat.le_refl _) _
  have fq0:(w.alloc (.cells #[.int .i64 (n:Int),.int .i64 (s0:Int),.int .i64 (s1:Int),.int .i64 (x0:Int),.int .i64 (x1:Int),.int .i64 (y0:Int),.int .i64 (y1:Int)] 53)).heap[w.heap.size]?=some (.cells #[.int .i64 (n:Int),.int .i64 (s0:Int),.int .i64 (s1:Int),.int .i64 (x0:Int),.int .i64 (x1:Int),.int .i64 (y0:Int),.int .i64 (y1:Int)] 53 (0,0)):=by have h:=World.alloc_heap_new w (.cells #[.int .i64 (n:Int),.int .i64 (s0:Int),.int .i64 (s1:Int),.int .i64 (x0:Int),.int .i64 (x1:Int),.int .i64 (y0:Int),.int .i64 (y1:Int)] 53);exact h
  generalize (w.alloc (.cells #[.int .i64 (n:Int),.int .i64 (s0:Int),.int .i64 (s1:Int),.int .i64 (x0:Int),.int .i64 (x1:Int),.int .i64 (y0:Int),.int .i64 (y1:Int)] 53))=W0 at fsz fB fq0 ⊢
  obtain ⟨⟨t0,t1,t2,t3,t4,t5,t6,tl⟩,_⟩:=c7_of fq0
  clear fsz fq0
  go_wp2_with (first|(go_at_call 72;refine (HSQ.out _).mono ?_;rintro _ w1 ⟨rfl,hb1⟩)|fail)
  go_ret
  exact ⟨rfl,keep_trans fB hb1⟩
 ·go_enter Try.func74,Try.ntmps74
  go_upto_region 1 with fail
  have fsz:(w.alloc (.cells #[.int .i64 (n:Int),.int .i64 (s0:Int),.int .i64 (s1:Int),.int .i64 (x0:Int),.int .i64 (x1:Int),.int .i64 (y0:Int),.int .i64 (y1:Int)] 53)).heap.size=w.heap.size+1:=by simp only[World.size_alloc]
  have fB:Below w.heap.size w (w.alloc (.cells #[.int .i64 (n:Int),.int .i64 (s0:Int),.int .i64 (s1:Int),.int .i64 (x0:Int),.int .i64 (x1:Int),.int .i64 (y0:Int),.int .i64 (y1:Int)] 53)):=(Below.refl _ _).alloc (Nat.le_refl _) _
  have fq0:(w.alloc (.cells #[.int .i64 (n:Int),.int .i64 (s0:Int),.int .i64 (s1:Int),.int .i64 (x0:Int),.int .i64 (x1:Int),.int .i64 (y0:Int),.int .i64 (y1:Int)] 53)).heap[w.heap.size]?=some (.cells #[.int .i64 (n:Int),.int .i64 (s0:Int),.int .i64 (s1:Int),.int .i64 (x0:Int),.int .i64 (x1:Int),.int .i64 (y0:Int),.int .i64 (y1:Int)] 53 (0,0)):=by have h:=World.alloc_heap_new w (.cells #[.int .i64 (n:Int),.int .i64 (s0:Int),.int .i64 (s1:Int),.int .i64 (x0:Int),.int .i64 (x1:Int),.int .i64 (y0:Int),.int .i64 (y1:Int)] 53);exact h
  generalize (w.alloc (.cells #[.int .i64 (n:Int),.int .i64 (s0:Int),.int .i64 (s1:Int),.int .i64 (x0:Int),.int .i64 (x1:Int),.int .i64 (y0:Int),.int .i64 (y1:Int)] 53))=W0 at fsz fB fq0 ⊢
  have Q0:=Lib.hid fq0
  obtain ⟨⟨t0,t1,t2,t3,t4,t5,t6,tl⟩,_⟩:=c7_of fq0
  clear fsz fq0
  go_wp2_with (first|(go_at_call 72;refine (HSQ.out _).mono ?_;rintro _ w1 ⟨rfl,hb1⟩;clear t0 t1 t2 t3 t4 t5 t6 tl;obtain ⟨⟨t0,t1,t2,t3,t4,t5,t6,tl⟩,_⟩:=c7_of (keepq hb1 Q0.out))|(go_at_call 85;refine (HPR.out _ _ _ [(x0:Int) - (x1:Int),(x0:Int)+(x1:Int),(y0:Int) - (y1:Int),(y0:Int)+(y1:Int)] _ (IC.new4 _ _ _ _ _ _)).mono ?_;rintro _ w2 ⟨rfl,hb2⟩)|fail)
  go_ret
  exact ⟨rfl,keep_trans (keep_alloc (keep_trans fB hb1) _) hb2⟩
end
section
open Go Go.RowKit Go.Maps
attribute [local go_sem] over_cell
attribute [local go_sem] Oper.semAt_some
theorem keyed_st:Keyed Try.prog 9:=string_keyed Try.underlying9
def kdV (f:Nat) (k:Int):Value := .agg #[.func (.func f) #[] #[],.int .i64 k]
def kSq:List UInt8:=[115,113,117,97,114,101]
def kSe:List UInt8:=[115,101,109,105,109,97,103,105,99]
def kMa:List UInt8:=[109,97,103,105,99]
def kPa:List UInt8:=[112,97,110,100,105,97,103,111,110,97,108]
def kindG (z:List UInt8):Option Value :=
 if z=kPa then some (kdV 74 3) else if z=kMa then some (kdV 73 2) else if z=kSe then some (kdV 72 1) else if z=kSq then some (kdV 71 0) else none
theorem ukinds_c (w:World):Calls Try.prog 44 #[] w fun e w'=>∃mb,e = .returned (.map (some mb))∧MapV w' Try.prog 9 Lit.string mb 4 kindG∧w.heap.size≤mb∧Below w.heap.size w w':=by
 have hmm:=@run_makeMap Try.prog
 have HM0:=Lib.hid (MapV.made (w:=w) (P:=Try.prog) (k:=9) (κ:=Lit.string))
 have hb0:Below w.heap.size w (w.alloc (.map #[] 0)):=keep_alloc (Below.refl _ _) _
 go_enter Try.func44,Try.ntmps44
 go_wp2_with (first|(refine wpList_insertV _ rfl _ _ _ 84 rfl 9 61 keyed_st Try.underlying84 Lit.string (fun x y h=>by injection h) w.heap.size 0 (fun _=>none) rfl HM0.out (by unfold maxLen;omega) _ _ kSq rfl rfl rfl ?_;intro w1 hM1 hg1)|(refine wpList_insertV _ rfl _ _ _ 84 rfl 9 61 keyed_st Try.underlying84 Lit.string (fun x y h=>by injection h) w.heap.size 1 _ rfl hM1 (by unfold maxLen;omega) _ _ kSe rfl rfl rfl ?_;intro w2 hM2 hg2)|(refine wpList_insertV _ rfl _ _ _ 84 rfl 9 61 keyed_st Try.underlying84 Lit.string (fun x y h=>by injection h) w.heap.size 2 _ rfl hM2 (by unfold maxLen;omega) _ _ kMa rfl rfl rfl ?_;intro w3 hM3 hg3)|(refine wpList_insertV _ rfl _ _ _ 84 rfl 9 61 keyed_st Try.underlying84 Lit.string (fun x y h=>by injection h) w.heap.size 3 _ rfl hM3 (by unfold maxLen;omega) _ _ kPa rfl rfl rfl ?_;intro w4 hM4 hg4)|fail)
 go_ret
 have hS:∀W W',W.grownBy W' (some w.heap.size)→Below w.heap.size w W→Below w.heap.size w W':=fun W W' hg hb =>
  hb.trans ((Stays.grown (S:=fun q=>q=w.heap.size) hg (fun q e=>by injection e with e;exact e.symm)).below (by have:=hb.size;omega) (fun q e=>by omega))
 exact ⟨_,rfl,hM4,Nat.le_refl _,hS _ _ hg4 (hS _ _ hg3 (hS _ _ hg2 (hS _ _ hg1 hb0)))⟩
end
section
open Go Go.RowKit
def holdD (o:Obj) (b d:Nat) (o2:Obj) (u:World):World:=hold o b (hold o2 (b+1+d) u)
theorem holdD_heap0 (o:Obj) (b d:Nat) (o2:Obj) (u:World):(holdD o b d o2 u).heap[b]?=some o:=hold_heap _ _ _
theorem holdD_heap1 (o:Obj) (b d:Nat) (o2:Obj) (u:World):(holdD o b d o2 u).heap[b+1+d]?=some o2:=by
 unfold holdD
 rw[hold_above _ _ _ (by omega) (by have:=hold_size o2 (b+1+d) u;omega)]
 exact hold_heap _ _ _
theorem holdD_of {o o2:Obj} {b d:Nat} {w:World} (h:w.heap[b]?=some o) (h2:w.heap[b+1+d]?=some o2):w=holdD o b d o2 w:=by
 unfold holdD
 rw[← hold_of h2,← hold_of h]
section
variable (v0 v1 v2 v3 v4 v5 v6:Value) (T:TypeId) (b d:Nat) (o:Obj) (u:World)
theorem holdD_a0:(holdD (.cells #[v0,v1,v2,v3,v4,v5,v6] T (0,0)) b d o u).cell? ⟨b,0,none⟩=some v0:=q_cell (holdD_heap0 _ b d _ u) 0
theorem holdD_a1:(holdD (.cells #[v0,v1,v2,v3,v4,v5,v6] T (0,0)) b d o u).cell? ⟨b,1,none⟩=some v1:=q_cell (holdD_heap0 _ b d _ u) 1
theorem holdD_a2:(holdD (.cells #[v0,v1,v2,v3,v4,v5,v6] T (0,0)) b d o u).cell? ⟨b,2,none⟩=some v2:=q_cell (holdD_heap0 _ b d _ u) 2
theorem holdD_a3:(holdD (.cells #[v0,v1,v2,v3,v4,v5,v6] T (0,0)) b d o u).cell? ⟨b,3,none⟩=some v3:=q_cell (holdD_heap0 _ b d _ u) 3
theorem holdD_a4:(holdD (.cells #[v0,v1,v2,v3,v4,v5,v6] T (0,0)) b d o u).cell? ⟨b,4,none⟩=some v4:=q_cell (holdD_heap0 _ b d _ u) 4
theorem holdD_a5:(holdD (.cells #[v0,v1,v2,v3,v4,v5,v6] T (0,0)) b d o u).cell? ⟨b,5,none⟩=some v5:=q_cell (holdD_heap0 _ b d _ u) 5
theorem holdD_a6:(holdD (.cells #[v0,v1,v2,v3,v4,v5,v6] T (0,0)) b d o u).cell? ⟨b,6,none⟩=some v6:=q_cell (holdD_heap0 _ b d _ u) 6
theorem holdD_b0:(holdD o b d (.cells #[v0,v1] T (0,0)) u).cell? ⟨b+1+d,0,none⟩=some v0:=q_cell (holdD_heap1 _ b d _ u) 0
theorem holdD_b1:(holdD o b d (.cells #[v0,v1] T (0,0)) u).cell? ⟨b+1+d,1,none⟩=some v1:=q_cell (holdD_heap1 _ b d _ u) 1
end
theorem c2g_of {w:World} {b:Nat} {v0 v1:Value} {T:TypeId} (h:w.heap[b]?=some (.cells #[v0,v1] T (0,0))):(w.cell? ⟨b,0,none⟩=some v0∧w.cell? ⟨b,1,none⟩=some v1∧b<w.heap.size)∧w.frozen? ⟨b,0,none⟩=false∧w.frozen? ⟨b,1,none⟩=false:=⟨⟨q_cell h 0,q_cell h 1,q_lt h⟩,q_free h 0,q_free h 1⟩
section
variable {W:World} {b b':Nat} {o:Obj} {T:TypeId}
theorem o7_q (h:W.heap[b']?=some o) (hb:b'≠b) (x0 x1 x2 x3 x4 x5 x6:Value):(((((((W.setCell ⟨b,0,none⟩ x0).setCell ⟨b,1,none⟩ x1).setCell ⟨b,2,none⟩ x2).setCell ⟨b,3,none⟩ x3).setCell ⟨b,4,none⟩ x4).setCell ⟨b,5,none⟩ x5).setCell ⟨b,6,none⟩ x6).heap[b']?=some o :=
 q_other (i:=6) (q_other (i:=5) (q_other (i:=4) (q_other (i:=3) (q_other (i:=2) (q_other (i:=1) (q_other (i:=0) h hb x0) hb x1) hb x2) hb x3) hb x4) hb x5) hb x6
theorem st7_q {u0 u1 u2 u3 u4 u5 u6:Value} (h:W.heap[b]?=some (.cells #[u0,u1,u2,u3,u4,u5,u6] T (0,0))) (x0 x1 x2 x3 x4 x5 x6:Value):(((((((W.setCell ⟨b,0,none⟩ x0).setCell ⟨b,1,none⟩ x1).setCell ⟨b,2,none⟩ x2).setCell ⟨b,3,none⟩ x3).setCell ⟨b,4,none⟩ x4).setCell ⟨b,5,none⟩ x5).setCell ⟨b,6,none⟩ x6).heap[b]?=some (.cells #[x0,x1,x2,x3,x4,x5,x6] T (0,0)) :=
 by simpa using q_set (i:=6) (q_set (i:=5) (q_set (i:=4) (q_set (i:=3) (q_set (i:=2) (q_set (i:=1) (q_set (i:=0) h x0) x1) x2) x3) x4) x5) x6
theorem st7_below {B:Nat} {w:World} (h:Below B w W) (hb:B≤b) (x0 x1 x2 x3 x4 x5 x6:Value):Below B w (((((((W.setCell ⟨b,0,none⟩ x0).setCell ⟨b,1,none⟩ x1).setCell ⟨b,2,none⟩ x2).setCell ⟨b,3,none⟩ x3).setCell ⟨b,4,none⟩ x4).setCell ⟨b,5,none⟩ x5).setCell ⟨b,6,none⟩ x6) :=
 ((((((h.setCell (p:=⟨b,0,none⟩) hb x0).setCell (p:=⟨b,1,none⟩) hb x1).setCell (p:=⟨b,2,none⟩) hb x2).setCell (p:=⟨b,3,none⟩) hb x3).setCell (p:=⟨b,4,none⟩) hb x4).setCell (p:=⟨b,5,none⟩) hb x5).setCell (p:=⟨b,6,none⟩) hb x6
end
end
section
open Go Go.RowKit Go.Maps
attribute [local go_sem] over_cell
attribute [local go_sem] Oper.semAt_some
attribute [local go_sem] holdD_a0 holdD_a1 holdD_a2 holdD_a3 holdD_a4 holdD_a5 holdD_a6 holdD_b0 holdD_b1
theorem uknown_c (n:Nat) (a0 a1 b0 b1 c0 c1:Int) (nm:List UInt8) (f:Nat) (k:Int) (w:World) (h1:1≤n) (h2:n≤16) (hn:∀x,x∈[a0,a1,b0,b1,c0,c1]→NearI x) (hk:kindG nm=some (kdV f k)) (hnm:nm.length≤1000) :
  Calls Try.prog 26 #[.agg #[.int .i64 (n:Int),.int .i64 a0,.int .i64 a1,.int .i64 b0,.int .i64 b1,.int .i64 c0,.int .i64 c1],.string ⟨nm.toArray⟩] w fun e w' =>
   e = .returned (.tuple #[.agg #[.int .i64 (n:Int),.int .i64 (a0 % (n:Int)),.int .i64 (a1 % (n:Int)),.int .i64 (b0 % (n:Int)),.int .i64 (b1 % (n:Int)),.int .i64 (c0 % (n:Int)),.int .i64 (c1 % (n:Int))],kdV f k,.int .i64 0])∧Below w.heap.size w w':=by
 have HS:=Lib.hid (fun W=>ustep_c n a0 a1 b0 b1 c0 c1 W h1 h2 hn)
 have HR:=Lib.hid (fun W=>ureduced_c n a0 a1 b0 b1 c0 c1 W h1 h2)
 have HK:=Lib.hid (fun W=>ukinds_c W)
 generalize a0 % (n:Int)=d0 at HR ⊢
 generalize a1 % (n:Int)=d1 at HR ⊢
 generalize b0 % (n:Int)=e0 at HR ⊢
 generalize b1 % (n:Int)=e1 at HR ⊢
 generalize c0 % (n:Int)=g0 at HR ⊢
 generalize c1 % (n:Int)=g1 at HR ⊢
 have HKG:=Lib.hid hk
 have HF:Hid (firstL [0,whenV false 13]=0):=rfl
 have HKO:Hid (keyOf Try.prog 9 (.string ⟨nm.toArray⟩)=some (Lit.string nm)):=by
  have:=Go.WideMaps.keyOf_string_mk (P:=Try.prog) (s:=⟨nm.toArray⟩) Try.underlying9 (by show nm.toArray.size≤_;unfold maxLen;simp;omega)
  exact this
 clear hn hk
 go_enter Try.func26,Try.ntmps26
 go_upto_region 1 with fail
 have fsz:(((w.alloc (.cells #[.int .i64 (n:Int),.int .i64 a0,.int .i64 a1,.int .i64 b0,.int .i64 b1,.int .i64 c0,.int .i64 c1] 24)).alloc (.cells #[.int .i64 0,.int .i64 0,.int .i64 0,.int .i64 0,.int .i64 0,.int .i64 0,.int .i64 0] 53)).alloc (.cells #[Value.nilFunc,.int .i64 0] 61)).heap.size=w.heap.size+3:=by simp only[World.size_alloc] <;> omega
 have fB:Below w.heap.size w (((w.alloc (.cells #[.int .i64 (n:Int),.int .i64 a0,.int .i64 a1,.int .i64 b0,.int .i64 b1,.int .i64 c0,.int .i64 c1] 24)).alloc (.cells #[.int .i64 0,.int .i64 0,.int .i64 0,.int .i64 0,.int .i64 0,.int .i64 0,.int .i64 0] 53)).alloc (.cells #[Value.nilFunc,.int .i64 0] 61)):=(((Below.refl _ _).alloc (Nat.le_refl _) _).alloc (by simp only[World.size_alloc];omega) _).alloc (by simp only[World.size_alloc];omega) _
 have fq0:(((w.alloc (.cells #[.int .i64 (n:Int),.int .i64 a0,.int .i64 a1,.int .i64 b0,.int .i64 b1,.int .i64 c0,.int .i64 c1] 24)).alloc (.cells #[.int .i64 0,.int .i64 0,.int .i64 0,.int .i64 0,.int .i64 0,.int .i64 0,.int .i64 0] 53)).alloc (.cells #[Value.nilFunc,.int .i64 0] 61)).heap[w.heap.size]?=some (.cells #[.int .i64 (n:Int),.int .i64 a0,.int .i64 a1,.int .i64 b0,.int .i64 b1,.int .i64 c0,.int .i64 c1] 24 (0,0)):=by have h:=World.alloc_heap_new w (.cells #[.int .i64 (n:Int),.int .i64 a0,.int .i64 a1,.int .i64 b0,.int .i64 b1,.int .i64 c0,.int .i64 c1] 24);exact (Below.heap_alloc _ _ _ (by simp only[World.size_alloc];omega)).trans ((Below.heap_alloc _ _ _ (by simp only[World.size_alloc];omega)).trans (h))
 have fq1:(((w.alloc (.cells #[.int .i64 (n:Int),.int .i64 a0,.int .i64 a1,.int .i64 b0,.int .i64 b1,.int .i64 c0,.int .i64 c1] 24)).alloc (.cells #[.int .i64 0,.int .i64 0,.int .i64 0,.int .i64 0,.int .i64 0,.int .i64 0,.int .i64 0] 53)).alloc (.cells #[Value.nilFunc,.int .i64 0] 61)).heap[w.heap.size+1]?=some (.cells #[.int .i64 0,.int .i64 0,.int .i64 0,.int .i64 0,.int .i64 0,.int .i64 0,.int .i64 0] 53 (0,0)):=by have h:=World.alloc_heap_new (w.alloc (.cells #[.int .i64 (n:Int),.int .i64 a0,.int .i64 a1,.int .i64 b0,.int .i64 b1,.int .i64 c0,.int .i64 c1] 24)) (.cells #[.int .i64 0,.int .i64 0,.int .i64 0,.int .i64 0,.int .i64 0,.int .i64 0,.int .i64 0] 53);simp only[World.size_alloc] at h;exact (Below.heap_alloc _ _ _ (by simp only[World.size_alloc];omega)).trans (h)
 have fq2:(((w.alloc (.cells #[.int .i64 (n:Int),.int .i64 a0,.int .i64 a1,.int .i64 b0,.int .i64 b1,.int .i64 c0,.int .i64 c1] 24)).alloc (.cells #[.int .i64 0,.int .i64 0,.int .i64 0,.int .i64 0,.int .i64 0,.int .i64 0,.int .i64 0] 53)).alloc (.cells #[Value.nilFunc,.int .i64 0] 61)).heap[w.heap.size+1+1]?=some (.cells #[Value.nilFunc,.int .i64 0] 61 (0,0)):=by have h:=World.alloc_heap_new ((w.alloc (.cells #[.int .i64 (n:Int),.int .i64 a0,.int .i64 a1,.int .i64 b0,.int .i64 b1,.int .i64 c0,.int .i64 c1] 24)).alloc (.cells #[.int .i64 0,.int .i64 0,.int .i64 0,.int .i64 0,.int .i64 0,.int .i64 0,.int .i64 0] 53)) (.cells #[Value.nilFunc,.int .i64 0] 61);simp only[World.size_alloc] at h;exact h
 generalize (((w.alloc (.cells #[.int .i64 (n:Int),.int .i64 a0,.int .i64 a1,.int .i64 b0,.int .i64 b1,.int .i64 c0,.int .i64 c1] 24)).alloc (.cells #[.int .i64 0,.int .i64 0,.int .i64 0,.int .i64 0,.int .i64 0,.int .i64 0,.int .i64 0] 53)).alloc (.cells #[Value.nilFunc,.int .i64 0] 61))=W0 at fsz fB fq0 fq1 fq2 ⊢
 have Q0:=Lib.hid fq0
 have Q1:=Lib.hid fq1
 have Q2:=Lib.hid fq2
 have hl2:=q_lt fq2
 clear fsz fq0 fq1 fq2
 go_upto_region 2 with (first|(go_at_call 44;refine (HK.out _).mono ?_;rintro _ w1 ⟨mb,rfl,hM,hml,hb1⟩)|(refine wpList_lookV _ rfl _ _ 84 rfl 9 61 keyed_st Try.underlying84 (.agg #[Value.nilFunc,.int .i64 0]) rfl Lit.string mb 4 kindG rfl hM _ nm rfl HKO.out ?_;rw[HKG.out];dsimp only[Option.getD,Option.isSome,kdV])|fail)
 have gsz:(w1.alloc (.cells #[.func (.func f) #[] #[],.int .i64 k] 61)).heap.size=w1.heap.size+1:=by simp only[World.size_alloc]
 have gB:Below w1.heap.size w1 (w1.alloc (.cells #[.func (.func f) #[] #[],.int .i64 k] 61)):=(Below.refl _ _).alloc (Nat.le_refl _) _
 have gq0:(w1.alloc (.cells #[.func (.func f) #[] #[],.int .i64 k] 61)).heap[w1.heap.size]?=some (.cells #[.func (.func f) #[] #[],.int .i64 k] 61 (0,0)):=by have h:=World.alloc_heap_new w1 (.cells #[.func (.func f) #[] #[],.int .i64 k] 61);exact h
 generalize (w1.alloc (.cells #[.func (.func f) #[] #[],.int .i64 k] 61))=W3 at gsz gB gq0 ⊢
 have hB3:=keep_trans hb1 gB
 have P0:=Lib.hid (keepq hB3 Q0.out)
 have P1:=Lib.hid (keepq hB3 Q1.out)
 have P2:=Lib.hid (keepq hB3 Q2.out)
 have P3:=Lib.hid gq0
 have HB3:=Lib.hid (keep_trans fB hB3)
 have hz1:=hb1.size
 have hfz:=fB.size
 obtain ⟨d,hd⟩:∃d,w1.heap.size=w.heap.size+1+d:=⟨w1.heap.size - (w.heap.size+1),by omega⟩
 have hd2:w.heap.size+2<w.heap.size+1+d:=by omega
 rw[hd] at P3 ⊢
 clear gsz gq0 gB hB3 Q0 Q1 Q2 fB hb1 hM hml hz1 hfz hd hl2
 obtain ⟨⟨t0,t1,t2,t3,t4,t5,t6,tl⟩,_⟩:=c7_of P0.out
 go_upto_region 5 with (first|(go_at_call 18;refine (HS.out _).mono ?_;rintro _ w4 ⟨rfl,hb4⟩)|(go_at_call 21;refine (uwhen_c _ _ _).mono ?_;rintro _ w3 ⟨rfl,rfl⟩)|(go_at_call 33;refine (ufirst_c _ _ _ _ _ (IC.new2 _ _ _ _)).mono ?_;rw[HF.out];rintro _ w5 ⟨rfl,rfl⟩))
 have hk5:=keep_alloc hb4 (.cells #[.int .i64 0,.int .i64 (whenV false 13)] 32)
 generalize (w4.alloc (.cells #[.int .i64 0,.int .i64 (whenV false 13)] 32))=W5 at hk5 ⊢
 have A0:=keepq hk5 P0.out
 have A3:=keepq hk5 P3.out
 have A1:=Lib.hid (keepq hk5 P1.out)
 have A2:=Lib.hid (keepq hk5 P2.out)
 have HB5:=Lib.hid (keep_trans HB3.out hk5)
 clear t0 t1 t2 t3 t4 t5 t6 tl P0 P1 P2 P3 HB3 hk5 hb4
 have n0:w.heap.size≠w.heap.size+1:=by omega
 have n3:w.heap.size+1+d≠w.heap.size+1:=by omega
 have n2:w.heap.size+1+1≠w.heap.size+1:=by omega
 refine wp_region_T (fun w'=>∃u,w'=holdD (.cells #[.int .i64 (n:Int),.int .i64 a0,.int .i64 a1,.int .i64 b0,.int .i64 b1,.int .i64 c0,.int .i64 c1] 24 (0,0)) w.heap.size d (.cells #[.func (.func f) #[] #[],.int .i64 k] 61 (0,0)) u) [] [4,5] [(0,0),(0,2),(1,1),(1,3),(2,4),(2,5)] (by kernel_rfl) (by kernel_rfl) (by first|(with_reducible exact ⟨_,holdD_of C0 C3⟩)|(with_reducible exact ⟨_,holdD_of E0 E3⟩)|(with_reducible exact ⟨_,holdD_of A0 A3⟩)|(with_reducible exact ⟨_,holdD_of (keepq (keep_drew (Below.refl _ _)) A0) (keepq (keep_drew (Below.refl _ _)) A3)⟩)) ?_
 dsimp only[pickF,nthOp]
 repeat (first|(refine wpF_skip rfl (fun K hK=>?_);go_big_quiet_op;refine hK _ ?_;clear hK K)|(refine wpF_quiet rfl rfl (fun K hK=>?_);go_big_quiet_op;refine hK _ ?_;clear hK K))
 refine wpF_end ?_
 dsimp only[pickOps,nthOp]
 repeat (first|(refine wpS_skip rfl (fun K hK=>?_);go_big_quiet_op;refine hK _ ?_;clear hK K)|(refine wpS_quiet rfl rfl (fun K hK=>?_);go_big_quiet_op;refine hK _ ?_;clear hK K)|(refine wpS_loud ?_;go_wp2_with ((go_at_call 19;refine (HR.out _).mono ?_;rintro _ w6 ⟨rfl,hb6⟩;have hk6:Below W5.heap.size W5 w6:=(by (repeat (first|assumption|exact Below.refl _ _|refine keep_drew ?_|refine keep_alloc ?_ _|refine keep_trans ?_ (by assumption))));have C0:=keepq hk6 A0;have C3:=keepq hk6 A3;have E0:=o7_q C0 n0 (.int .i64 (n:Int)) (.int .i64 d0) (.int .i64 d1) (.int .i64 e0) (.int .i64 e1) (.int .i64 g0) (.int .i64 g1);have E3:=o7_q C3 n3 (.int .i64 (n:Int)) (.int .i64 d0) (.int .i64 d1) (.int .i64 e0) (.int .i64 e1) (.int .i64 g0) (.int .i64 g1);have C1:=keepq hk6 A1.out;obtain ⟨⟨r0,r1,r2,r3,r4,r5,r6,rl⟩,rf0,rf1,rf2,rf3,rf4,rf5,rf6⟩:=c7_of C1;have D2:=o7_q (keepq hk6 A2.out) n2 (.int .i64 (n:Int)) (.int .i64 d0) (.int .i64 d1) (.int .i64 e0) (.int .i64 e1) (.int .i64 g0) (.int .i64 g1);obtain ⟨⟨y0,y1,yl⟩,yf0,yf1⟩:=c2g_of D2));refine ⟨?_,?_⟩;focus (first|(with_reducible exact ⟨_,holdD_of C0 C3⟩)|(with_reducible exact ⟨_,holdD_of E0 E3⟩)|(with_reducible exact ⟨_,holdD_of A0 A3⟩)|(with_reducible exact ⟨_,holdD_of (keepq (keep_drew (Below.refl _ _)) A0) (keepq (keep_drew (Below.refl _ _)) A3)⟩))))
 refine wpS_late _ _ _ rfl ?_
 dsimp only[List.map]
 go_wp2_with ((go_at_call 19;refine (HR.out _).mono ?_;rintro _ w6 ⟨rfl,hb6⟩;have hk6:Below W5.heap.size W5 w6:=(by (repeat (first|assumption|exact Below.refl _ _|refine keep_drew ?_|refine keep_alloc ?_ _|refine keep_trans ?_ (by assumption))));have C0:=keepq hk6 A0;have C3:=keepq hk6 A3;have E0:=o7_q C0 n0 (.int .i64 (n:Int)) (.int .i64 d0) (.int .i64 d1) (.int .i64 e0) (.int .i64 e1) (.int .i64 g0) (.int .i64 g1);have E3:=o7_q C3 n3 (.int .i64 (n:Int)) (.int .i64 d0) (.int .i64 d1) (.int .i64 e0) (.int .i64 e1) (.int .i64 g0) (.int .i64 g1);have C1:=keepq hk6 A1.out;obtain ⟨⟨r0,r1,r2,r3,r4,r5,r6,rl⟩,rf0,rf1,rf2,rf3,rf4,rf5,rf6⟩:=c7_of C1;have D2:=o7_q (keepq hk6 A2.out) n2 (.int .i64 (n:Int)) (.int .i64 d0) (.int .i64 d1) (.int .i64 e0) (.int .i64 e1) (.int .i64 g0) (.int .i64 g1);obtain ⟨⟨y0,y1,yl⟩,yf0,yf1⟩:=c2g_of D2))
 refine NoPanic.normal ?_
 have hbw:=keep_trans HB5.out hk6
 have hfin:=((st7_below (b:=w.heap.size+1) hbw (by omega) (.int .i64 (n:Int)) (.int .i64 d0) (.int .i64 d1) (.int .i64 e0) (.int .i64 e1) (.int .i64 g0) (.int .i64 g1)).setCell (p:=⟨w.heap.size+1+1,0,none⟩) (by show w.heap.size≤w.heap.size+1+1;omega) (.func (.func f) #[] #[])).setCell (p:=⟨w.heap.size+1+1,1,none⟩) (by show w.heap.size≤w.heap.size+1+1;omega) (.int .i64 k)
 have z1:=q_other (i:=1) (q_other (i:=0) (st7_q C1 (.int .i64 (n:Int)) (.int .i64 d0) (.int .i64 d1) (.int .i64 e0) (.int .i64 e1) (.int .i64 g0) (.int .i64 g1)) n2.symm (.func (.func f) #[] #[])) n2.symm (.int .i64 k)
 have z2:=q_set (i:=1) (q_set (i:=0) D2 (.func (.func f) #[] #[])) (.int .i64 k)
 clear y0 y1 yl yf0 yf1 rf0 rf1 rf2 rf3 rf4 rf5 rf6 r0 r1 r2 r3 r4 r5 r6 rl
 obtain ⟨⟨r0,r1,r2,r3,r4,r5,r6,rl⟩,_⟩:=c7_of z1
 have y0:=q_cell z2 0
 have y1:=q_cell z2 1
 clear C0 C3 C1 E0 E3 D2 z1 z2
 go_wp2_with fail
 refine bodyPost_ret (v := .tuple #[.agg #[.int .i64 (n:Int),.int .i64 d0,.int .i64 d1,.int .i64 e0,.int .i64 e1,.int .i64 g0,.int .i64 g1],kdV f k,.int .i64 0]) ?_ rfl ⟨rfl,hfin⟩
 simp[results,Try.f26,go_sem,r0,r1,r2,r3,r4,r5,r6,y0,y1,kdV]
theorem uadmits_c (n:Nat) (a0 a1 b0 b1 c0 c1:Int) (nm:List UInt8) (f:Nat) (k:Int) (B:Bool) (w:World) (h1:1≤n) (h2:n≤16) (hn:∀x,x∈[a0,a1,b0,b1,c0,c1]→NearI x) (hk:kindG nm=some (kdV f k)) (hnm:nm.length≤1000)
  (hcf:∀args w,Sem.run Try.prog (callFunc f args) w = .ok (.enter f args) w)
  (hB:∀W,Calls Try.prog f #[.agg #[.int .i64 (n:Int),.int .i64 (a0 % (n:Int)),.int .i64 (a1 % (n:Int)),.int .i64 (b0 % (n:Int)),.int .i64 (b1 % (n:Int)),.int .i64 (c0 % (n:Int)),.int .i64 (c1 % (n:Int))]] W fun e w'=>e = .returned (.bool B)∧Below W.heap.size W w') :
  Calls Try.prog 9 #[.agg #[.int .i64 (n:Int),.int .i64 a0,.int .i64 a1,.int .i64 b0,.int .i64 b1,.int .i64 c0,.int .i64 c1],.string ⟨nm.toArray⟩] w fun e w' =>
   e = .returned (.tuple #[.bool B,.int .i64 0])∧Below w.heap.size w w':=by
 have HK:=Lib.hid (fun W=>uknown_c n a0 a1 b0 b1 c0 c1 nm f k W h1 h2 hn hk hnm)
 have HB:=Lib.hid hB
 unfold kdV at HK
 generalize a0 % (n:Int)=d0 at HK HB
 generalize a1 % (n:Int)=d1 at HK HB
 generalize b0 % (n:Int)=e0 at HK HB
 generalize b1 % (n:Int)=e1 at HK HB
 generalize c0 % (n:Int)=g0 at HK HB
 generalize c1 % (n:Int)=g1 at HK HB
 clear hn hk hB hnm
 go_enter Try.func9,Try.ntmps9
 go_upto_region 1 with fail
 have fsz:(w.alloc (.cells #[.int .i64 (n:Int),.int .i64 a0,.int .i64 a1,.int .i64 b0,.int .i64 b1,.int .i64 c0,.int .i64 c1] 24)).heap.size=w.heap.size+1:=by simp only[World.size_alloc]
 have fB:Below w.heap.size w (w.alloc (.cells #[.int .i64 (n:Int),.int .i64 a0,.int .i64 a1,.int .i64 b0,.int .i64 b1,.int .i64 c0,.int .i64 c1] 24)):=(Below.refl _ _).alloc (Nat.le_refl _) _
 have fq0:(w.alloc (.cells #[.int .i64 (n:Int),.int .i64 a0,.int .i64 a1,.int .i64 b0,.int .i64 b1,.int .i64 c0,.int .i64 c1] 24)).heap[w.heap.size]?=some (.cells #[.int .i64 (n:Int),.int .i64 a0,.int .i64 a1,.int .i64 b0,.int .i64 b1,.int .i64 c0,.int .i64 c1] 24 (0,0)):=by have h:=World.alloc_heap_new w (.cells #[.int .i64 (n:Int),.int .i64 a0,.int .i64 a1,.int .i64 b0,.int .i64 b1,.int .i64 c0,.int .i64 c1] 24);exact h
 generalize (w.alloc (.cells #[.int .i64 (n:Int),.int .i64 a0,.int .i64 a1,.int .i64 b0,.int .i64 b1,.int .i64 c0,.int .i64 c1] 24))=W0 at fsz fB fq0 ⊢
 obtain ⟨⟨t0,t1,t2,t3,t4,t5,t6,tl⟩,_⟩:=c7_of fq0
 clear fsz fq0
 go_upto_region 2 with (first|(go_at_call 26;refine (HK.out _).mono ?_;rintro _ w1 ⟨rfl,hb1⟩)|fail)
 have gsz:((w1.alloc (.cells #[.int .i64 (n:Int),.int .i64 d0,.int .i64 d1,.int .i64 e0,.int .i64 e1,.int .i64 g0,.int .i64 g1] 53)).alloc (.cells #[.func (.func f) #[] #[],.int .i64 k] 61)).heap.size=w1.heap.size+2:=by simp only[World.size_alloc] <;> omega
 have gB:Below w1.heap.size w1 ((w1.alloc (.cells #[.int .i64 (n:Int),.int .i64 d0,.int .i64 d1,.int .i64 e0,.int .i64 e1,.int .i64 g0,.int .i64 g1] 53)).alloc (.cells #[.func (.func f) #[] #[],.int .i64 k] 61)):=((Below.refl _ _).alloc (Nat.le_refl _) _).alloc (by simp only[World.size_alloc];omega) _
 have gq0:((w1.alloc (.cells #[.int .i64 (n:Int),.int .i64 d0,.int .i64 d1,.int .i64 e0,.int .i64 e1,.int .i64 g0,.int .i64 g1] 53)).alloc (.cells #[.func (.func f) #[] #[],.int .i64 k] 61)).heap[w1.heap.size]?=some (.cells #[.int .i64 (n:Int),.int .i64 d0,.int .i64 d1,.int .i64 e0,.int .i64 e1,.int .i64 g0,.int .i64 g1] 53 (0,0)):=by have h:=World.alloc_heap_new w1 (.cells #[.int .i64 (n:Int),.int .i64 d0,.int .i64 d1,.int .i64 e0,.int .i64 e1,.int .i64 g0,.int .i64 g1] 53);exact (Below.heap_alloc _ _ _ (by simp only[World.size_alloc];omega)).trans (h)
 have gq1:((w1.alloc (.cells #[.int .i64 (n:Int),.int .i64 d0,.int .i64 d1,.int .i64 e0,.int .i64 e1,.int .i64 g0,.int .i64 g1] 53)).alloc (.cells #[.func (.func f) #[] #[],.int .i64 k] 61)).heap[w1.heap.size+1]?=some (.cells #[.func (.func f) #[] #[],.int .i64 k] 61 (0,0)):=by have h:=World.alloc_heap_new (w1.alloc (.cells #[.int .i64 (n:Int),.int .i64 d0,.int .i64 d1,.int .i64 e0,.int .i64 e1,.int .i64 g0,.int .i64 g1] 53)) (.cells #[.func (.func f) #[] #[],.int .i64 k] 61);simp only[World.size_alloc] at h;exact h
 generalize ((w1.alloc (.cells #[.int .i64 (n:Int),.int .i64 d0,.int .i64 d1,.int .i64 e0,.int .i64 e1,.int .i64 g0,.int .i64 g1] 53)).alloc (.cells #[.func (.func f) #[] #[],.int .i64 k] 61))=W3 at gsz gB gq0 gq1 ⊢
 obtain ⟨⟨r0,r1,r2,r3,r4,r5,r6,rl⟩,_⟩:=c7_of gq0
 obtain ⟨⟨y0,y1,yl⟩,_⟩:=c2g_of gq1
 have hB3:=keep_trans (keep_trans fB hb1) gB
 clear gsz gq0 gq1 t0 t1 t2 t3 t4 t5 t6 tl
 go_wp2_with (first|(refine (HB.out _).mono ?_;rintro _ w4 ⟨rfl,hb4⟩)|fail)
 refine bodyPost_ret (v := .tuple #[.bool B,.int .i64 0]) ?_ rfl ⟨rfl,keep_trans hB3 hb4⟩
 simp[results,Try.f9,go_sem]
end
end Go.Proofs.Ytpkghjoippcjeaa
