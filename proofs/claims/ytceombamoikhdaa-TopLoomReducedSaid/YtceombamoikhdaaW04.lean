/- Texts J21 to J24 of this proof, in one file. -/
import Derived.Test.YtceombamoikhdaaW01
import Derived.Test.YtceombamoikhdaaW02
import Derived.Test.YtceombamoikhdaaW03
import Derived.Deep.CutBlock
import Derived.Deep.CutRange
namespace Go.Proofs.Ytceombamoikhdaa
set_option maxRecDepth 100000
set_option maxHeartbeats 16000000
section
open Go Go.RowKit
attribute [local go_sem] over_cell
attribute [local go_sem] Oper.semAt_some
theorem sq_c (r C:Int) (a:Option Addr) (n c:Nat) (cs:List Int) (low:Int) (w:World) (h:IC w a n cs) (hlow : -1≤low) :
  Calls Try.prog 43 #[.agg #[.int .i64 r,.int .i64 C,.slice a n c],.int .i64 low] w fun e w'=>e = .returned (.int .i64 (sqE low r C cs))∧Below w.heap.size w w':=by
 have hsm:=h.small
 have hlen:=h.len
 have HO:=Lib.hid (fun W=>isOrder_c r W)
 by_cases hrc:r=C
 ·subst hrc
  by_cases ho:1≤r∧r≤16
  ·obtain ⟨N,rfl⟩:=Int.eq_ofNat_of_zero_le (show 0≤r by omega)
   have hN1:1≤N:=by omega
   have hN2:N≤16:=by omega
   have hmul:wrap64 ((N:Int)*(N:Int))=((N*N:Nat):Int):=by
    rw[← Int.natCast_mul]
    have h1:N*N≤16*16:=Nat.mul_le_mul hN2 hN2
    generalize N*N=q at h1 ⊢
    unfold wrap64
    omega
   have hO:(decide (1≤(N:Int))&&decide ((N:Int)≤16))=true:=by rw[decide_eq_true ho.1,decide_eq_true ho.2];rfl
   rw[hO] at HO
   by_cases hn:n=N*N
   ·have HE:Hid (sqE low (N:Int) (N:Int) cs=symE low N cs):=by
     unfold Hid sqE sqB
     rw[if_pos (by simp only[Bool.and_eq_true,decide_eq_true_eq];exact ⟨⟨⟨trivial,ho.1⟩,ho.2⟩,by rw[hlen,hn,Int.natCast_mul]⟩)]
     rfl
    have HC:=Lib.hid (fun W (hb:Below w.heap.size w W)=>chk_c (N:Int) N a n c cs low W (h.mono hb) hN1 hN2 hlow (by rw[hn];exact Nat.mul_le_mul_left N hN2))
    have hnm:((n:Int) != wrap64 ((N:Int)*(N:Int)))=false:=by rw[hmul,hn];simp
    clear h hlen ho hO hmul hn
    go_enter Try.func43,Try.ntmps43
    go_wp2_with fail
    have fsz:(w.alloc (.cells #[.int .i64 (N:Int),.int .i64 (N:Int),.slice a n c] 24)).heap.size=w.heap.size+1:=by simp only[World.size_alloc]
    have fB:Below w.heap.size w (w.alloc (.cells #[.int .i64 (N:Int),.int .i64 (N:Int),.slice a n c] 24)):=(Below.refl _ _).alloc (Nat.le_refl _) _
    have fq0:(w.alloc (.cells #[.int .i64 (N:Int),.int .i64 (N:Int),.slice a n c] 24)).heap[w.heap.size]?=some (.cells #[.int .i64 (N:Int),.int .i64 (N:Int),.slice a n c] 24 (0,0)):=by have h:=World.alloc_heap_new w (.cells #[.int .i64 (N:Int),.int .i64 (N:Int),.slice a n c] 24);exact h
    generalize (w.alloc (.cells #[.int .i64 (N:Int),.int .i64 (N:Int),.slice a n c] 24))=W0 at fsz fB fq0 ⊢
    obtain ⟨x0,x1,x2,xl⟩:W0.cell? ⟨w.heap.size,0,none⟩=some (.int .i64 (N:Int))∧W0.cell? ⟨w.heap.size,1,none⟩=some (.int .i64 (N:Int))∧W0.cell? ⟨w.heap.size,2,none⟩=some (.slice a n c)∧w.heap.size<W0.heap.size:=⟨q_cell fq0 0,q_cell fq0 1,q_cell fq0 2,q_lt fq0⟩
    clear fq0 fsz
    go_wp2_with (first|(go_at_call 45;refine (HO.out _).mono ?_;rintro _ w1 ⟨rfl,rfl⟩)|(go_at_call 60;refine (HC.out _ fB).mono ?_;rintro _ w1 ⟨rfl,hb1⟩))
    go_ret
    exact ⟨ret_int HE.out.symm,keep_trans fB hb1⟩
   ·have HE:Hid (sqE low (N:Int) (N:Int) cs=2):=by
     unfold Hid sqE sqB
     rw[if_neg (by simp only[Bool.and_eq_true,decide_eq_true_eq];rintro ⟨_,e⟩;rw[hlen,← Int.natCast_mul] at e;exact hn (Int.ofNat.inj e))]
    have hnm:((n:Int) != wrap64 ((N:Int)*(N:Int)))=true:=by rw[hmul,bne_iff_ne];exact fun e=>hn (Int.ofNat.inj e)
    clear h hlen ho hO hmul hn
    go_enter Try.func43,Try.ntmps43
    go_wp2_with fail
    have fsz:(w.alloc (.cells #[.int .i64 (N:Int),.int .i64 (N:Int),.slice a n c] 24)).heap.size=w.heap.size+1:=by simp only[World.size_alloc]
    have fB:Below w.heap.size w (w.alloc (.cells #[.int .i64 (N:Int),.int .i64 (N:Int),.slice a n c] 24)):=(Below.refl _ _).alloc (Nat.le_refl _) _
    have fq0:(w.alloc (.cells #[.int .i64 (N:Int),.int .i64 (N:Int),.slice a n c] 24)).heap[w.heap.size]?=some (.cells #[.int .i64 (N:Int),.int .i64 (N:Int),.slice a n c] 24 (0,0)):=by have h:=World.alloc_heap_new w (.cells #[.int .i64 (N:Int),.int .i64 (N:Int),.slice a n c] 24);exact h
    generalize (w.alloc (.cells #[.int .i64 (N:Int),.int .i64 (N:Int),.slice a n c] 24))=W0 at fsz fB fq0 ⊢
    obtain ⟨x0,x1,x2,xl⟩:W0.cell? ⟨w.heap.size,0,none⟩=some (.int .i64 (N:Int))∧W0.cell? ⟨w.heap.size,1,none⟩=some (.int .i64 (N:Int))∧W0.cell? ⟨w.heap.size,2,none⟩=some (.slice a n c)∧w.heap.size<W0.heap.size:=⟨q_cell fq0 0,q_cell fq0 1,q_cell fq0 2,q_lt fq0⟩
    clear fq0 fsz
    go_wp2_with (first|(go_at_call 45;refine (HO.out _).mono ?_;rintro _ w1 ⟨rfl,rfl⟩))
    go_ret
    exact ⟨ret_int HE.out.symm,fB⟩
  ·have HE:Hid (sqE low r r cs=2):=by
    unfold Hid sqE sqB
    rw[if_neg (by simp only[Bool.and_eq_true,decide_eq_true_eq];rintro ⟨⟨⟨_,e1⟩,e2⟩,_⟩;exact ho ⟨e1,e2⟩)]
   have hO:(decide (1≤r)&&decide (r≤16))=false:=by
    rw[Bool.eq_false_iff];intro e;rw[Bool.and_eq_true,decide_eq_true_eq,decide_eq_true_eq] at e;exact ho e
   rw[hO] at HO
   clear h hlen ho hO
   go_enter Try.func43,Try.ntmps43
   go_wp2_with fail
   have fsz:(w.alloc (.cells #[.int .i64 r,.int .i64 r,.slice a n c] 24)).heap.size=w.heap.size+1:=by simp only[World.size_alloc]
   have fB:Below w.heap.size w (w.alloc (.cells #[.int .i64 r,.int .i64 r,.slice a n c] 24)):=(Below.refl _ _).alloc (Nat.le_refl _) _
   have fq0:(w.alloc (.cells #[.int .i64 r,.int .i64 r,.slice a n c] 24)).heap[w.heap.size]?=some (.cells #[.int .i64 r,.int .i64 r,.slice a n c] 24 (0,0)):=by have h:=World.alloc_heap_new w (.cells #[.int .i64 r,.int .i64 r,.slice a n c] 24);exact h
   generalize (w.alloc (.cells #[.int .i64 r,.int .i64 r,.slice a n c] 24))=W0 at fsz fB fq0 ⊢
   obtain ⟨x0,x1,x2,xl⟩:W0.cell? ⟨w.heap.size,0,none⟩=some (.int .i64 r)∧W0.cell? ⟨w.heap.size,1,none⟩=some (.int .i64 r)∧W0.cell? ⟨w.heap.size,2,none⟩=some (.slice a n c)∧w.heap.size<W0.heap.size:=⟨q_cell fq0 0,q_cell fq0 1,q_cell fq0 2,q_lt fq0⟩
   clear fq0 fsz
   go_wp2_with (first|(go_at_call 45;refine (HO.out _).mono ?_;rintro _ w1 ⟨rfl,rfl⟩))
   go_ret
   exact ⟨ret_int HE.out.symm,fB⟩
 ·have HE:Hid (sqE low r C cs=2):=by
   unfold Hid sqE sqB
   rw[if_neg (by simp only[Bool.and_eq_true,decide_eq_true_eq];rintro ⟨⟨⟨e,_⟩,_⟩,_⟩;exact hrc e)]
  have hne:(r != C)=true:=by simpa using hrc
  clear h hlen hrc
  go_enter Try.func43,Try.ntmps43
  go_wp2_with fail
  have fsz:(w.alloc (.cells #[.int .i64 r,.int .i64 C,.slice a n c] 24)).heap.size=w.heap.size+1:=by simp only[World.size_alloc]
  have fB:Below w.heap.size w (w.alloc (.cells #[.int .i64 r,.int .i64 C,.slice a n c] 24)):=(Below.refl _ _).alloc (Nat.le_refl _) _
  have fq0:(w.alloc (.cells #[.int .i64 r,.int .i64 C,.slice a n c] 24)).heap[w.heap.size]?=some (.cells #[.int .i64 r,.int .i64 C,.slice a n c] 24 (0,0)):=by have h:=World.alloc_heap_new w (.cells #[.int .i64 r,.int .i64 C,.slice a n c] 24);exact h
  generalize (w.alloc (.cells #[.int .i64 r,.int .i64 C,.slice a n c] 24))=W0 at fsz fB fq0 ⊢
  obtain ⟨x0,x1,x2,xl⟩:W0.cell? ⟨w.heap.size,0,none⟩=some (.int .i64 r)∧W0.cell? ⟨w.heap.size,1,none⟩=some (.int .i64 C)∧W0.cell? ⟨w.heap.size,2,none⟩=some (.slice a n c)∧w.heap.size<W0.heap.size:=⟨q_cell fq0 0,q_cell fq0 1,q_cell fq0 2,q_lt fq0⟩
  clear fq0 fsz
  go_wp2_with fail
  go_ret
  exact ⟨ret_int HE.out.symm,fB⟩
theorem latcheck_c (r C:Int) (a:Option Addr) (n c:Nat) (cs:List Int) (w:World) (h:IC w a n cs) :
  Calls Try.prog 18 #[.agg #[.int .i64 r,.int .i64 C,.slice a n c]] w fun e w'=>e = .returned (.int .i64 (sqE 0 r C cs))∧Below w.heap.size w w':=by
 have HC:=Lib.hid (fun W (hb:Below w.heap.size w W)=>sq_c r C a n c cs 0 W (h.mono hb) (by decide))
 clear h
 generalize sqE 0 r C cs=v at HC ⊢
 go_enter Try.func18,Try.ntmps18
 go_wp2_with fail
 have fsz:(w.alloc (.cells #[.int .i64 r,.int .i64 C,.slice a n c] 24)).heap.size=w.heap.size+1:=by simp only[World.size_alloc]
 have fB:Below w.heap.size w (w.alloc (.cells #[.int .i64 r,.int .i64 C,.slice a n c] 24)):=(Below.refl _ _).alloc (Nat.le_refl _) _
 have fq0:(w.alloc (.cells #[.int .i64 r,.int .i64 C,.slice a n c] 24)).heap[w.heap.size]?=some (.cells #[.int .i64 r,.int .i64 C,.slice a n c] 24 (0,0)):=by have h:=World.alloc_heap_new w (.cells #[.int .i64 r,.int .i64 C,.slice a n c] 24);exact h
 generalize (w.alloc (.cells #[.int .i64 r,.int .i64 C,.slice a n c] 24))=W0 at fsz fB fq0 ⊢
 obtain ⟨x0,x1,x2,xl⟩:W0.cell? ⟨w.heap.size,0,none⟩=some (.int .i64 r)∧W0.cell? ⟨w.heap.size,1,none⟩=some (.int .i64 C)∧W0.cell? ⟨w.heap.size,2,none⟩=some (.slice a n c)∧w.heap.size<W0.heap.size:=⟨q_cell fq0 0,q_cell fq0 1,q_cell fq0 2,q_lt fq0⟩
 clear fq0 fsz
 go_wp2_with (first|(go_at_call 43;refine (HC.out _ fB).mono ?_;rintro _ w1 ⟨rfl,hb1⟩))
 go_ret
 exact ⟨rfl,keep_trans fB hb1⟩
end
section
open Go Go.RowKit
attribute [local go_sem] over_cell
attribute [local go_sem] Oper.semAt_some
def ordE (n:Int):Int:=whenV (!(decide (1≤n)&&decide (n≤16))) 3
theorem corder_c (n:Int) (w:World):Calls Try.prog 21 #[.int .i64 n] w fun e w'=>e = .returned (.int .i64 (ordE n))∧w=w':=by
 have HO:=Lib.hid (fun W=>isOrder_c n W)
 have HE:Hid (ordE n=whenV (!(decide (1≤n)&&decide (n≤16))) 3):=rfl
 generalize (decide (1≤n)&&decide (n≤16))=b at HO HE
 go_enter Try.func21,Try.ntmps21
 go_wp2_with (first|(go_at_call 45;refine (HO.out _).mono ?_;rintro _ w1 ⟨rfl,rfl⟩)|(go_at_call 22;refine (twhen_c _ _ _).mono ?_;rintro _ w2 ⟨rfl,rfl⟩))
 go_ret
 exact ⟨ret_int HE.out.symm,rfl⟩
theorem lat_c (r:Int) (N i j:Nat) (a:Option Addr) (n c:Nat) (cs:List Int) (w:World) (h:IC w a n cs) (hN:N≤256) (hi:i≤256) (hj:j<N) (hk:i*N+j<n) :
  Calls Try.prog 56 #[.agg #[.int .i64 r,.int .i64 (N:Int),.slice a n c],.int .i64 (i:Int),.int .i64 (j:Int)] w fun e w'=>e = .returned (.int .i64 (cs[i*N+j]?.getD 0))∧Below w.heap.size w w':=by
 have hq:i*N≤256*256:=Nat.mul_le_mul hi hN
 obtain ⟨q,hq1⟩:∃q,q=i*N:=⟨_,rfl⟩
 rw[← hq1] at hq hk ⊢
 have hmul:wrap64 ((i:Int)*(N:Int))=(q:Int):=by rw[← Int.natCast_mul,← hq1];unfold wrap64;omega
 have hqi:(q:Int)+(j:Int)<(n:Int):=by omega
 obtain ⟨b,off,rfl,hb,hc⟩:=h.2 (q+j) hk
 have hj1:j<256:=by omega
 clear hq1 h
 generalize cs[q+j]?.getD 0=x at hc ⊢
 go_enter Try.func56,Try.ntmps56
 go_upto_region 1 with fail
 have fsz:(w.alloc (.cells #[.int .i64 r,.int .i64 (N:Int),.slice (some ⟨b,off,none⟩) n c] 24)).heap.size=w.heap.size+1:=by simp only[World.size_alloc]
 have fB:Below w.heap.size w (w.alloc (.cells #[.int .i64 r,.int .i64 (N:Int),.slice (some ⟨b,off,none⟩) n c] 24)):=(Below.refl _ _).alloc (Nat.le_refl _) _
 have fq0:(w.alloc (.cells #[.int .i64 r,.int .i64 (N:Int),.slice (some ⟨b,off,none⟩) n c] 24)).heap[w.heap.size]?=some (.cells #[.int .i64 r,.int .i64 (N:Int),.slice (some ⟨b,off,none⟩) n c] 24 (0,0)):=by have h:=World.alloc_heap_new w (.cells #[.int .i64 r,.int .i64 (N:Int),.slice (some ⟨b,off,none⟩) n c] 24);exact h
 generalize (w.alloc (.cells #[.int .i64 r,.int .i64 (N:Int),.slice (some ⟨b,off,none⟩) n c] 24))=W0 at fsz fB fq0 ⊢
 have x1:W0.cell? ⟨w.heap.size,1,none⟩=some (.int .i64 (N:Int)):=q_cell fq0 1
 have x2:W0.cell? ⟨w.heap.size,2,none⟩=some (.slice (some ⟨b,off,none⟩) n c):=q_cell fq0 2
 have xl:=q_lt fq0
 have hc3:=((bcell fB).1 b (off+(q+j)) hb).trans hc
 have hb3:=Nat.lt_of_lt_of_le hb fB.size
 clear fq0 fsz hc
 go_wp2
 go_ret
 exact ⟨rfl,fB⟩
theorem tmod_up (x:Int) (n:Int):(x.tmod n+n) % n=x % n:=by
 rw[Int.add_emod_right,Int.tmod_def,Int.sub_mul_emod_self_left]
theorem modulo_c (x:Int) (n:Nat) (w:World) (hn:1≤n) (hn2:n≤1000000) :
  Calls Try.prog 44 #[.int .i64 x,.int .i64 (n:Int)] w fun e w'=>e = .returned (.int .i64 (x % (n:Int)))∧w=w':=by
 have hne:(n:Int)≠0:=by omega
 have hb:=Int.lt_tmod_of_pos x (show (0:Int)<(n:Int) by omega)
 have hb2:=Int.tmod_lt_of_pos x (show (0:Int)<(n:Int) by omega)
 go_enter Try.func44,Try.ntmps44
 go_wp2
 go_ret
 exact ⟨ret_int (tmod_up _ _),rfl⟩
end
section
open Go Go.RowKit
theorem run_append_nothing {P:Program} (w:World) (t ty e:TypeId) (i:TypeInfo) (ht:P.underlying t=some (.slice e)) (hi:P.info? e=some i) (b:Option Addr) (n cap c:Nat) (h:n≤cap) :
  (Builtin.append_ #[t,t] ty #[.slice b n cap,.slice none 0 c]).run P w = .ok (.slice b n cap) w:=by
 cases b with
 | none=>simp[Builtin.append_,run_underlying ht,sizeOf,typeInfo,hi,Builtin.lenOf,Builtin.firstCells,h]
 | some a=>simp[Builtin.append_,run_underlying ht,sizeOf,typeInfo,hi,Builtin.lenOf,Builtin.firstCells,h,storeCells]
def SrcOk (w:World) (ad:Option Addr) (m:Nat) (news:List Value):Prop:=(∃p,ad=some p∧∀j u,news[j]?=some u→w.cell? (p.add j)=some u)∨(ad=none∧m=0)
theorem wpList_append_any {P:Program} (w:World) {ops:Array Oper} {rest:List Oper} {o:Oper} {a:Act} {Q:Exit→Act→World→Prop} (hgd:o.guard=none) (s x:Operand) (t:TypeId)
  (ho:o.op = .call { callee := .builtin .append,args:=#[s,x],argTypes:=#[t,t] })
  (B:Nat) (e:TypeId) (i:TypeInfo) (z:Value) (bytes:Nat) (ht:P.underlying t=some (.slice e)) (hi:P.info? e=some i) (hz:i.zero=some z)
  (hsize:i.size=1) (hby:i.bytes=bytes) (hzs:z.cells.size=1)
  (v:Value) (n:Nat) (xs:List Value) (hs:a.eval s=v) (hown:w.ownsRow B e 1 v n xs) (hB:B≤w.heap.size)
  (ad:Option Addr) (m c:Nat) (news:List Value) (hx:a.eval x = .slice ad m c) (hl:news.length=m) (hnews:SrcOk w ad m news) (h1:∀u∈news,u.oneCell'=true)
  (h63:n+m≤maxLen) (hbytes:(n+m)*bytes≤140737488355328)
  (h:∀v' w',w'.ownsRow B e 1 v' (n+m) (xs++news)→Stays (fun k=>v.ownBlock=some k) w w'→(∀k,v'.ownBlock=some k→v.ownBlock=some k∨w.heap.size≤k)→wpList P ops Q rest (a.put o.dst v') w'):wpList P ops Q (o :: rest) a w:=by
 rcases hnews with ⟨p,rfl,hn⟩|⟨rfl,rfl⟩
 ·refine wpList_append_own2 w hgd s x t ho e i z 1 bytes ht hi hz hsize hby hzs (by decide) v n xs hs (owns_base hown (Nat.zero_le _)) p m c news hx (by omega) hn h1 h63 hbytes ?_
  intro v' w' ho' hg hk
  refine h v' w' ?_ (Stays.grown hg (fun k e=>e)) hk
  refine ⟨ho'.1,ho'.2.imp id ?_⟩
  rintro ⟨g,cap,cur,rfl,_,r⟩
  refine ⟨g,cap,cur,rfl,?_,r⟩
  rcases hk g rfl with e|e
  ·exact (hown.lt g e).1
  ·omega
 ·have hn:news=[]:=List.eq_nil_of_length_eq_zero hl
  subst hn
  obtain ⟨b,cap,hv,hcap⟩:∃b cap,v = .slice b n cap∧n≤cap:=by
   rcases hown.2 with ⟨h2,h3⟩|⟨g,cap,cur,h2,_,_,h3,_⟩
   ·exact ⟨none,0,by rw[h2,h3],by omega⟩
   ·exact ⟨_,cap,h2,h3⟩
  refine wpList_plain hgd fun _ hK=>?_
  have hr:=run_append_nothing (P:=P) w t o.type e i ht hi b n cap c hcap
  unfold Oper.wp execOp
  simp only[ho,resolve,invoke,builtin,Sem.run_bind,Sem.run_pure,Result.andThen_ok,List.map_toArray,List.map_cons,List.map_nil,hs,hv,hx,hr]
  refine hK _ _ ?_
  rw[← hv]
  exact h v w (by simpa using hown) (Stays.refl _ _) (fun k e => .inl e)
def noB:Nat→Prop:=fun _=>False
end
section
open Go Go.RowKit
attribute [local go_sem] over_cell
attribute [local go_sem] Oper.semAt_some
attribute [local go_sem] hold_c0 hold_c1 hold_c2
def madeTo (N:Nat) (s:Nat→Nat→Int) (k:Nat):List Int:=(List.range k).map fun k=>s (k / N) (k % N)
theorem madeTo_len (N:Nat) (s:Nat→Nat→Int) (k:Nat):(madeTo N s k).length=k:=by simp[madeTo]
theorem madeTo_succ (N:Nat) (s:Nat→Nat→Int) {i j:Nat} (hj:j<N):madeTo N s (i*N+j+1)=madeTo N s (i*N+j)++[s i j]:=by
 unfold madeTo
 rw[List.range_succ,List.map_append,List.map_singleton]
 have h1:(i*N+j) / N=i:=by rw[Nat.mul_comm,Nat.mul_add_div (by omega),Nat.div_eq_of_lt hj,Nat.add_zero]
 have h2:(i*N+j) % N=j:=by rw[Nat.mul_comm,Nat.mul_add_mod,Nat.mod_eq_of_lt hj]
 rw[h1,h2]
theorem c3_of {w:World} {b:Nat} {v0 v1 v2:Value} {T:TypeId} (h:w.heap[b]?=some (.cells #[v0,v1,v2] T (0,0))):w.cell? ⟨b,0,none⟩=some v0∧w.cell? ⟨b,1,none⟩=some v1∧w.cell? ⟨b,2,none⟩=some v2∧b<w.heap.size:=⟨q_cell h 0,q_cell h 1,q_cell h 2,q_lt h⟩
theorem Stays.below' {S:Nat→Prop} {w0 w w':World} {B:Nat} (h:Stays S w w') (hB:B≤w.heap.size) (hb:Below B w0 w) (hs:∀k,S k→B≤k):Below B w0 w' :=
 ⟨h.os.trans hb.os,h.tape.trans hb.tape,h.output.trans hb.output,Nat.le_trans hb.size h.size,fun k hk=>(h.block k (Nat.lt_of_lt_of_le hk hB) (fun e=>by have:=hs k e;omega)).trans (hb.block k hk)⟩
def MadeI (w:World) (bR bO L N:Nat) (s:Nat→Nat→Int) (k:Nat) (W:World):Prop :=
 ∃v,W.heap[bR]?=some (.cells #[.int .i64 0,.int .i64 0,.slice none 0 0] 24 (0,0))∧W.heap[bO]?=some (.cells #[.int .i64 (N:Int),.int .i64 (N:Int),v] 24 (0,0))∧W.ownsRow L 3 1 v k ((madeTo N s k).map (Value.int .i64))∧Below w.heap.size w W∧L≤W.heap.size
theorem made_c (N:Nat) (hN:N≤256) (fk:Nat) (fst caps:Array Value) (s:Nat→Nat→Int) (w:World)
  (hcf:∀args w,Sem.run Try.prog (callFunc fk args) w = .ok (.enter fk args) w)
  (hs:∀i j:Nat,i<N→j<N→∀W,Below w.heap.size w W→Calls Try.prog fk (fst++(#[.int .i64 (i:Int),.int .i64 (j:Int)]++caps)) W (fun e w'=>e = .returned (.int .i64 (s i j))∧Below W.heap.size W w')) :
  Calls Try.prog 23 #[.int .i64 (N:Int),.func (.func fk) fst caps] w fun e w'=>∃v,e = .returned (.agg #[.int .i64 (N:Int),.int .i64 (N:Int),v])∧w'.ownsRow w.heap.size 3 1 v (N*N) ((madeTo N s (N*N)).map (Value.int .i64))∧Below w.heap.size w w':=by
 have HS:=Lib.hid hs
 clear hs
 have hN2:N*N≤256*256:=Nat.mul_le_mul hN hN
 obtain ⟨q,hq⟩:∃q,q=N*N:=⟨_,rfl⟩
 have HQ:=Lib.hid hq
 rw[← hq] at hN2 ⊢
 clear hq
 obtain ⟨i0,hi,hz0,hz1,hz2⟩:=info_parts infoInt
 go_enter Try.func23,Try.ntmps23
 go_upto_region 2 with fail
 have fsz:((w.alloc (.cells #[.int .i64 0,.int .i64 0,.slice none 0 0] 24)).alloc (.cells #[.int .i64 (N:Int),.int .i64 (N:Int),.slice none 0 0] 24)).heap.size=w.heap.size+2:=by simp only[World.size_alloc] <;> omega
 have fB:Below w.heap.size w ((w.alloc (.cells #[.int .i64 0,.int .i64 0,.slice none 0 0] 24)).alloc (.cells #[.int .i64 (N:Int),.int .i64 (N:Int),.slice none 0 0] 24)):=((Below.refl _ _).alloc (Nat.le_refl _) _).alloc (by simp only[World.size_alloc];omega) _
 have fq0:((w.alloc (.cells #[.int .i64 0,.int .i64 0,.slice none 0 0] 24)).alloc (.cells #[.int .i64 (N:Int),.int .i64 (N:Int),.slice none 0 0] 24)).heap[w.heap.size]?=some (.cells #[.int .i64 0,.int .i64 0,.slice none 0 0] 24 (0,0)):=by have h:=World.alloc_heap_new w (.cells #[.int .i64 0,.int .i64 0,.slice none 0 0] 24);exact (Below.heap_alloc _ _ _ (by simp only[World.size_alloc];omega)).trans (h)
 have fq1:((w.alloc (.cells #[.int .i64 0,.int .i64 0,.slice none 0 0] 24)).alloc (.cells #[.int .i64 (N:Int),.int .i64 (N:Int),.slice none 0 0] 24)).heap[w.heap.size+1]?=some (.cells #[.int .i64 (N:Int),.int .i64 (N:Int),.slice none 0 0] 24 (0,0)):=by have h:=World.alloc_heap_new (w.alloc (.cells #[.int .i64 0,.int .i64 0,.slice none 0 0] 24)) (.cells #[.int .i64 (N:Int),.int .i64 (N:Int),.slice none 0 0] 24);simp only[World.size_alloc] at h;exact h
 generalize ((w.alloc (.cells #[.int .i64 0,.int .i64 0,.slice none 0 0] 24)).alloc (.cells #[.int .i64 (N:Int),.int .i64 (N:Int),.slice none 0 0] 24))=W0 at fsz fB fq0 fq1 ⊢
 have HSZ:=Lib.hid fsz
 have hszw:w.heap.size+2≤W0.heap.size:=by omega
 have HST:Hid (MadeI w w.heap.size (w.heap.size+1) W0.heap.size N s 0 W0):=⟨_,fq0,fq1,World.ownsRow_nil _ _ _ _,fB,Nat.le_refl _⟩
 clear fsz fq0 fq1 fB
 go_wp2_with fail
 go_loopw [6,7,12,16] (fun _ _ s12 _ wr=>∃i:Nat,i≤N∧s12 = .int .i64 i∧Hid (MadeI w w.heap.size (w.heap.size+1) W0.heap.size N s (i*N) wr)) (fun _ _ s12 _ _=>N - (intOf s12).toNat)
 case atStart=>exact ⟨0,by omega,rfl,by rw[Nat.zero_mul];exact HST⟩
 case round =>
  obtain ⟨i,hi1,rfl,hm⟩:=hrel
  by_cases hlt:i<N
  ·go_wp2_with fail
   go_loopw [7,16] (fun _ s16 wr=>∃j:Nat,j≤N∧s16 = .int .i64 j∧Hid (MadeI w w.heap.size (w.heap.size+1) W0.heap.size N s (i*N+j) wr)) (fun _ s16 _=>N - (intOf s16).toNat)
   case atStart=>exact ⟨0,by omega,rfl,hm⟩
   case round =>
    obtain ⟨j,hj1,rfl,hm2⟩:=hrel
    by_cases hlt2:j<N
    ·obtain ⟨v,q0,q1,hown,hb,hL⟩:=hm2.out
     obtain ⟨av,cv,rfl⟩:=owns_shape hown
     obtain ⟨c0,c1,c2,cl⟩:=c3_of q1
     have Q0:=Lib.hid q0
     have Q1:=Lib.hid q1
     have HO:=Lib.hid hown
     have HB:=Lib.hid hb
     have HL:=Lib.hid hL
     have HC:=Lib.hid (HS.out i j hlt hlt2)
     have hix:i*N+j+1≤65792:=by
      have:i*N≤256*256:=Nat.mul_le_mul (by omega) hN
      omega
     clear q0 q1 hown hb hL
     go_wp2_with fail
     refine wp_region_T (fun w'=>∃u,w'=hold (.cells #[.int .i64 (N:Int),.int .i64 (N:Int),.slice av (i*N+j) cv] 24 (0,0)) (w.heap.size+1) u) [0,2,3,4] [7,8,9] [(0,1),(1,5),(1,6),(2,7),(2,8),(2,9)] (by kernel_rfl) (by kernel_rfl) (by exact ⟨_,hold_of (by first|exact keepq ((Below.refl _ _).alloc (Nat.le_refl _) _) NX1|exact keepq (keep_drew ((Below.refl _ _).alloc (Nat.le_refl _) _)) NX1|exact NX1|exact Q1.out)⟩) ?_
     dsimp only[pickF,nthOp]
     repeat (first|(refine wpF_skip rfl (fun K hK=>?_);go_big_quiet_op;refine hK _ ?_;clear hK K)|(refine wpF_quiet rfl rfl (fun K hK=>?_);go_big_quiet_op;refine hK _ ?_;clear hK K))
     refine wpF_end ?_
     dsimp only[pickOps,nthOp]
     repeat (first|(refine wpS_skip rfl (fun K hK=>?_);go_big_quiet_op;refine hK _ ?_;clear hK K)|(refine wpS_quiet rfl rfl (fun K hK=>?_);go_big_quiet_op;refine hK _ ?_;clear hK K)|(refine wpS_loud ?_;go_wp2_with (first|(refine (HC.out _ (by first|exact HB.out|exact HB.out.drew)).mono ?_;rintro _ w1 ⟨rfl,hb1⟩;have NX1:=keepq hb1 Q1.out;have HO1:=Lib.hid (owns_keep HO.out (fun k e hl=>hb1.block k hl));have HB1:Hid (Below w.heap.size w w1):=(by first|exact keep_trans HB.out hb1|exact keep_trans (keep_drew HB.out) hb1);have hz1w:wr.heap.size≤w1.heap.size:=hb1.size)|(at_builtin;refine wpList_append_any _ rfl _ _ 22 rfl W0.heap.size 3 i0 (.int .i64 0) 8 Try.underlying22 hi hz0 hz1 hz2 rfl (.slice av (i*N+j) cv) _ _ rfl (HO1.out.alloc _) (by have:=HL.out;simp only[World.size_alloc];omega) _ _ _ [.int .i64 (s i j)] rfl rfl (.inl ⟨_,rfl,cell_one_new _ _ _⟩) (by simp[Value.oneCell']) (by unfold maxLen;omega) (by omega) ?_;intro v7 w7 hown7 hst7 hk7;have hst8:Stays (fun k=>(Value.slice av (i*N+j) cv).ownBlock=some k) w1 w7:=((Below.stays ((Below.refl w1.heap.size w1).alloc (Nat.le_refl _) _) _).trans hst7 (fun _ e => .inl e));have hne:¬(Value.slice av (i*N+j) cv).ownBlock=some (w.heap.size+1):=(fun e=>absurd (HO1.out.lt _ e).1 (by omega));have NX7:=hst8.q NX1 hne;have NR7:=hst8.q (keepq hb1 Q0.out) (fun e=>absurd (HO1.out.lt _ e).1 (by omega));obtain ⟨a7,c7,rfl⟩:=owns_shape hown7;clear c0 c1 c2 cl;obtain ⟨c0,c1,c2,cl⟩:=c3_of NX7;have cf:=q_free NX7 2));refine ⟨?_,?_⟩;focus (exact ⟨_,hold_of (by first|exact keepq ((Below.refl _ _).alloc (Nat.le_refl _) _) NX1|exact keepq (keep_drew ((Below.refl _ _).alloc (Nat.le_refl _) _)) NX1|exact NX1|exact Q1.out)⟩)))
     refine wpS_late _ _ _ rfl ?_
     dsimp only[List.map]
     go_wp2_with (first|(refine (HC.out _ (by first|exact HB.out|exact HB.out.drew)).mono ?_;rintro _ w1 ⟨rfl,hb1⟩;have NX1:=keepq hb1 Q1.out;have HO1:=Lib.hid (owns_keep HO.out (fun k e hl=>hb1.block k hl));have HB1:Hid (Below w.heap.size w w1):=(by first|exact keep_trans HB.out hb1|exact keep_trans (keep_drew HB.out) hb1);have hz1w:wr.heap.size≤w1.heap.size:=hb1.size)|(at_builtin;refine wpList_append_any _ rfl _ _ 22 rfl W0.heap.size 3 i0 (.int .i64 0) 8 Try.underlying22 hi hz0 hz1 hz2 rfl (.slice av (i*N+j) cv) _ _ rfl (HO1.out.alloc _) (by have:=HL.out;simp only[World.size_alloc];omega) _ _ _ [.int .i64 (s i j)] rfl rfl (.inl ⟨_,rfl,cell_one_new _ _ _⟩) (by simp[Value.oneCell']) (by unfold maxLen;omega) (by omega) ?_;intro v7 w7 hown7 hst7 hk7;have hst8:Stays (fun k=>(Value.slice av (i*N+j) cv).ownBlock=some k) w1 w7:=((Below.stays ((Below.refl w1.heap.size w1).alloc (Nat.le_refl _) _) _).trans hst7 (fun _ e => .inl e));have hne:¬(Value.slice av (i*N+j) cv).ownBlock=some (w.heap.size+1):=(fun e=>absurd (HO1.out.lt _ e).1 (by omega));have NX7:=hst8.q NX1 hne;have NR7:=hst8.q (keepq hb1 Q0.out) (fun e=>absurd (HO1.out.lt _ e).1 (by omega));obtain ⟨a7,c7,rfl⟩:=owns_shape hown7;clear c0 c1 c2 cl;obtain ⟨c0,c1,c2,cl⟩:=c3_of NX7;have cf:=q_free NX7 2))
     refine NoPanic.normal ?_
     have NX8:=q_set (i:=2) NX7 (.slice a7 (i*N+j+1) c7)
     have NR8:=q_other (i:=2) NR7 (show w.heap.size≠w.heap.size+1 by omega) (.slice a7 (i*N+j+1) c7)
     have hown8:=ownsRow_setCell_other hown7 (a:=⟨w.heap.size+1,2,none⟩) (fun e=>absurd (hown7.lt _ e).1 (show ¬W0.heap.size≤w.heap.size+1 by omega)) (.slice a7 (i*N+j+1) c7)
     have hbw:Below w.heap.size w w7:=hst8.below' HB1.out.size HB1.out (fun k e=>by have:=(HO1.out.lt _ e).1;omega)
     have hbw8:=hbw.setCell (p:=⟨w.heap.size+1,2,none⟩) (show w.heap.size≤w.heap.size+1 by omega) (.slice a7 (i*N+j+1) c7)
     have hsz8:W0.heap.size≤(w7.setCell ⟨w.heap.size+1,2,none⟩ (.slice a7 (i*N+j+1) c7)).heap.size:=by
      have h1:=HB.out.size
      have h2:=hst8.size
      have h3:=HL.out
      have h4:wr.heap.size≤w1.heap.size:=hb1.size
      have h5:=(KeepsOthers.setCell w7 ⟨w.heap.size+1,2,none⟩ (.slice a7 (i*N+j+1) c7)).size
      omega
     clear c0 c1 c2 cl cf NX7 NR7 hown7 hst7 hst8 hbw
     generalize (w7.setCell ⟨w.heap.size+1,2,none⟩ (.slice a7 (i*N+j+1) c7))=W8 at NX8 NR8 hown8 hbw8 hsz8 ⊢
     go_wp2_with fail
     go_roundw
     case rel=>exact ⟨j+1,by omega,by go_num,_,NR8,NX8,by rw[← Nat.add_assoc,madeTo_succ N s hlt2,List.map_append];exact hown8,hbw8,hsz8⟩
     case measure=>simp[intOf];omega
    ·have e:j=N:=by omega
     subst e
     go_wp2
     go_roundw
     case rel=>exact ⟨i+1,by omega,by go_num,by rw[Nat.add_mul,Nat.one_mul];exact hm2⟩
     case measure=>simp[intOf];omega
  ·have e:i=N:=by omega
   subst e
   rw[← HQ.out] at hm
   obtain ⟨v,q0,q1,hown,hb,hL⟩:=hm.out
   obtain ⟨c0,c1,c2,cl⟩:=c3_of q1
   obtain ⟨d0,d1,d2,dl⟩:=c3_of q0
   have d0f:=q_free q0 0
   have d1f:=q_free q0 1
   have d2f:=q_free q0 2
   obtain ⟨av,cv,rfl⟩:=owns_shape hown
   clear q1
   go_wp2_with fail
   have g0:=q_set (i:=2) (q_set (i:=1) (q_set (i:=0) q0 (.int .i64 (i:Int))) (.int .i64 (i:Int))) (.slice av q cv)
   have hoW:=ownsRow_setCell_other (ownsRow_setCell_other (ownsRow_setCell_other hown (a:=⟨w.heap.size,0,none⟩) (fun e=>absurd (hown.lt _ e).1 (show ¬W0.heap.size≤w.heap.size by omega)) (.int .i64 (i:Int))) (a:=⟨w.heap.size,1,none⟩) (fun e=>absurd (hown.lt _ e).1 (show ¬W0.heap.size≤w.heap.size by omega)) (.int .i64 (i:Int))) (a:=⟨w.heap.size,2,none⟩) (fun e=>absurd (hown.lt _ e).1 (show ¬W0.heap.size≤w.heap.size by omega)) (.slice av q cv)
   have hbW:=((hb.setCell (p:=⟨w.heap.size,0,none⟩) (Nat.le_refl _) (.int .i64 (i:Int))).setCell (p:=⟨w.heap.size,1,none⟩) (Nat.le_refl _) (.int .i64 (i:Int))).setCell (p:=⟨w.heap.size,2,none⟩) (Nat.le_refl _) (.slice av q cv)
   obtain ⟨k0,k1,k2,kl⟩:=c3_of g0
   refine bodyPost_ret (v := .agg #[.int .i64 (i:Int),.int .i64 (i:Int),.slice av q cv]) ?_ rfl ⟨_,rfl,owns_base hoW (by omega),hbW⟩
   simp[results,Try.f23,go_sem,k0,k1,k2]
end
section
open Go Go.RowKit
attribute [local go_sem] over_cell
attribute [local go_sem] Oper.semAt_some
theorem divw {k C:Nat} (hk:k≤1000000):wrap64 ((k:Int) / (C:Int))=((k / C:Nat):Int):=by
 rw[← Int.natCast_ediv]
 have:k / C≤k:=Nat.div_le_self _ _
 generalize k / C=q at this ⊢
 unfold wrap64
 omega
theorem modw {k C:Nat}:(k:Int) % (C:Int)=((k % C:Nat):Int):=(Int.natCast_emod _ _).symm
theorem lineB_iff {C k d:Nat} (hk:k≤1000000) (hd:d≤1000000):lineB C k d=((wrap64 ((k:Int) / (C:Int))==wrap64 ((d:Int) / (C:Int)))||((k:Int) % (C:Int)==(d:Int) % (C:Int))):=by
 rw[divw hk,divw hd,modw,modw,Bool.eq_iff_iff]
 unfold lineB
 simp only[Bool.or_eq_true,beq_iff_eq,Int.natCast_inj]
def TwN (C:Nat) (cs:List Int) (k d:Nat):Prop:=(∀i,i<k→∀j,j<i→(lineB C i j&&cs[i]?.getD 0==cs[j]?.getD 0&&decide (0≤cs[i]?.getD 0))=false)∧∀j,j<d→(lineB C k j&&cs[k]?.getD 0==cs[j]?.getD 0&&decide (0≤cs[k]?.getD 0))=false
theorem TwN.next {C:Nat} {cs:List Int} {k d:Nat} (h:TwN C cs k d) (h1:(lineB C k d&&cs[k]?.getD 0==cs[d]?.getD 0&&decide (0≤cs[k]?.getD 0))=false):TwN C cs k (d+1) :=
 ⟨h.1,fun j hj=>by
  rcases Nat.lt_or_ge j d with e|e
  ·exact h.2 j e
  ·rw[show j=d by omega];exact h1⟩
theorem TwN.row {C:Nat} {cs:List Int} {k:Nat} (h:TwN C cs k k):TwN C cs (k+1) 0 :=
 ⟨fun i hi j hj=>by
  rcases Nat.lt_or_ge i k with e|e
  ·exact h.1 i e j hj
  ·rw[show i=k by omega] at hj ⊢;exact h.2 j hj,fun j hj=>absurd hj (by omega)⟩
theorem TwN.none {C:Nat} {cs:List Int} (h:TwN C cs cs.length 0):twiceB C cs=false:=by
 unfold twiceB
 rw[List.any_eq_false]
 intro i hi
 rw[List.mem_range] at hi
 rw[Bool.not_eq_true,List.any_eq_false]
 intro j hj
 rw[List.mem_range] at hj
 rw[h.1 i hi j hj]
 decide
theorem twice_hit {C:Nat} {cs:List Int} {k d:Nat} (hk:k<cs.length) (hd:d<k) (h:(lineB C k d&&cs[k]?.getD 0==cs[d]?.getD 0&&decide (0≤cs[k]?.getD 0))=true):twiceB C cs=true:=by
 unfold twiceB
 rw[List.any_eq_true]
 exact ⟨k,List.mem_range.2 hk,List.any_eq_true.2 ⟨d,List.mem_range.2 hd,h⟩⟩
theorem rtwice_c (r:Int) (C:Nat) (a:Option Addr) (n c:Nat) (cs:List Int) (w:World) (h:IC w a n cs) (hC:1≤C) (hn:n≤65536) :
  Calls Try.prog 38 #[.agg #[.int .i64 r,.int .i64 (C:Int),.slice a n c]] w fun e w'=>e = .returned (.bool (twiceB C cs))∧Below w.heap.size w w':=by
 have hm:=h.small
 go_enter Try.func38,Try.ntmps38
 go_wp2_with fail
 have fB:Below w.heap.size w (w.alloc (.cells #[.int .i64 r,.int .i64 (C:Int),.slice a n c] 24)):=(Below.refl _ _).alloc (Nat.le_refl _) _
 have FQ:Hid ((w.alloc (.cells #[.int .i64 r,.int .i64 (C:Int),.slice a n c] 24)).heap[w.heap.size]?=some (.cells #[.int .i64 r,.int .i64 (C:Int),.slice a n c] 24 (0,0))):=World.alloc_heap_new _ _
 generalize (w.alloc (.cells #[.int .i64 r,.int .i64 (C:Int),.slice a n c] 24))=W0 at fB FQ ⊢
 obtain ⟨x0,x1,x2,xl⟩:=c3_of FQ.out
 have h0:=h.mono fB
 have hCI:(1:Int)≤(C:Int):=by omega
 have hCI2:((C:Int)==0)=false:=by rw[beq_eq_false_iff_ne];omega
 have HL:=Lib.hid h.len
 clear h
 go_loopw [3,4,5] (fun s3 _ _ wr=>∃k:Nat,k≤n∧s3 = .int .i64 k∧Hid (TwN C cs k 0)∧Below W0.heap.size W0 wr) (fun s3 _ _ _=>n - (intOf s3).toNat)
 case atStart=>exact ⟨0,by omega,rfl,⟨fun i hi=>absurd hi (by omega),fun j hj=>absurd hj (by omega)⟩,Below.refl _ _⟩
 case round =>
  obtain ⟨k,hk,rfl,hn1,hbr⟩:=hrel
  clear x0 x1 x2 xl
  obtain ⟨x0,x1,x2,xl⟩:=c3_of (keepq hbr FQ.out)
  by_cases hlt:k<n
  ·have hdI:k≤1000000:=by omega
   obtain ⟨b,off,rfl,hb,hc⟩:=h0.2 k hlt
   have hki:(k:Int)<(n:Int):=by omega
   go_wp2_with fail
   go_loopw [4,5] (fun s4 _ wr=>∃d:Nat,d≤k∧s4 = .int .i64 d∧Hid (TwN C cs k d)∧Below W0.heap.size W0 wr) (fun s4 _ _=>k - (intOf s4).toNat)
   case atStart=>exact ⟨0,by omega,rfl,hn1,hbr⟩
   case round =>
    obtain ⟨d,hd,rfl,hn2,hbr⟩:=hrel
    clear x0 x1 x2 xl
    obtain ⟨x0,x1,x2,xl⟩:=c3_of (keepq hbr FQ.out)
    by_cases hlt2:d<k
    ·have hdI2:d≤1000000:=by omega
     have HLB:=Lib.hid (lineB_iff (C:=C) hdI hdI2)
     obtain ⟨b2,off2,e2,hb2,hc2⟩:=(h0.mono hbr).2 d (by omega)
     cases e2
     replace hc:=((bcell hbr).1 _ _ hb).trans hc
     have hdi:(d:Int)<(n:Int):=by omega
     have HH:=Lib.hid (fun e=>twice_hit (C:=C) (cs:=cs) (k:=k) (d:=d) (by rw[HL.out];exact hlt) hlt2 e)
     have HN:=Lib.hid (fun e=>hn2.out.next e)
     obtain ⟨t1,ht1⟩:∃t,t=(wrap64 ((k:Int) / (C:Int))==wrap64 ((d:Int) / (C:Int))):=⟨_,rfl⟩
     obtain ⟨t2,ht2⟩:∃t,t=((k:Int) % (C:Int)==(d:Int) % (C:Int)):=⟨_,rfl⟩
     rw[← ht1,← ht2] at HLB
     rw[HLB.out] at HH HN
     obtain ⟨t3,ht3⟩:∃t,t=(cs[k]?.getD 0==cs[d]?.getD 0):=⟨_,rfl⟩
     obtain ⟨t4,ht4⟩:∃t,t=decide (0≤cs[k]?.getD 0):=⟨_,rfl⟩
     rw[← ht3,← ht4] at HH HN
     obtain ⟨x,hx⟩:∃x,x=cs[k]?.getD 0:=⟨_,rfl⟩
     obtain ⟨y,hy⟩:∃y,y=cs[d]?.getD 0:=⟨_,rfl⟩
     rw[← hx,← hy] at ht3
     rw[← hx] at ht4 hc
     rw[← hy] at hc2
     clear hx hy HLB hn2
     replace ht1:=ht1.symm
     replace ht2:=ht2.symm
     replace ht3:=ht3.symm
     replace ht4:decide (x≥0)=t4:=ht4.symm
     go_wp2_with fail
     cases t1 with
     | true =>
      refine wp_region_S (fun w'=>∃u,w'=over (wr) u) [20] [(0,0),(0,1),(0,2),(0,3),(0,4),(0,5),(0,6),(0,7),(0,8),(0,9),(0,10),(0,11),(0,12),(0,13),(0,14),(0,15),(0,16),(0,17),(0,18),(0,19),(2,20)] (by kernel_rfl) (by kernel_rfl) (by exact ⟨_,below_over (by repeat (first|assumption|exact Below.refl _ _|refine keep_drew ?_|refine keep_alloc ?_ _|refine keep_trans ?_ (by assumption)))⟩) ?_
      dsimp only[pickOps,nthOp]
      repeat (first|(refine wpS_skip rfl (fun K hK=>?_);go_big_quiet_op;refine hK _ ?_;clear hK K)|(refine wpS_quiet rfl rfl (fun K hK=>?_);go_big_quiet_op;refine hK _ ?_;clear hK K))
      refine wpS_late _ _ _ rfl ?_
      dsimp only[List.map]
      go_wp2_with (fail)
      refine NoPanic.normal ?_
      cases t3 with
      | false =>
       go_wp2_with fail
       refine wp_region_S (fun w'=>∃u,w'=over (wr) u) [] [(0,0),(0,1),(0,2),(0,3),(0,4),(0,5),(0,6),(0,7),(0,8),(0,9),(0,10),(0,11),(0,12),(0,13),(0,14),(0,15),(0,16),(0,17),(0,18),(0,19),(0,20),(0,21)] (by kernel_rfl) (by kernel_rfl) (by exact ⟨_,below_over (by repeat (first|assumption|exact Below.refl _ _|refine keep_drew ?_|refine keep_alloc ?_ _|refine keep_trans ?_ (by assumption)))⟩) ?_
       dsimp only[pickOps,nthOp]
       repeat (first|(refine wpS_skip rfl (fun K hK=>?_);go_big_quiet_op;refine hK _ ?_;clear hK K)|(refine wpS_quiet rfl rfl (fun K hK=>?_);go_big_quiet_op;refine hK _ ?_;clear hK K))
       refine wpS_end ?_
       go_wp2_with fail
       go_roundw
       case rel=>exact ⟨d+1,by omega,by go_num,HN.out rfl,hbr.drew.drew⟩
       case measure=>simp[intOf];omega
      | true =>
       cases t4 with
       | false =>
        go_wp2_with fail
        refine wp_region_S (fun w'=>∃u,w'=over (wr) u) [] [(0,0),(0,1),(0,2),(0,3),(0,4),(0,5),(0,6),(0,7),(0,8),(0,9),(0,10),(0,11),(0,12),(0,13),(0,14),(0,15),(0,16),(0,17),(0,18),(0,19),(0,20),(0,21)] (by kernel_rfl) (by kernel_rfl) (by exact ⟨_,below_over (by repeat (first|assumption|exact Below.refl _ _|refine keep_drew ?_|refine keep_alloc ?_ _|refine keep_trans ?_ (by assumption)))⟩) ?_
        dsimp only[pickOps,nthOp]
        repeat (first|(refine wpS_skip rfl (fun K hK=>?_);go_big_quiet_op;refine hK _ ?_;clear hK K)|(refine wpS_quiet rfl rfl (fun K hK=>?_);go_big_quiet_op;refine hK _ ?_;clear hK K))
        refine wpS_end ?_
        go_wp2_with fail
        go_roundw
        case rel=>exact ⟨d+1,by omega,by go_num,HN.out rfl,hbr.drew.drew⟩
        case measure=>simp[intOf];omega
       | true =>
        go_wp2_with fail
        refine wp_region_S (fun w'=>∃u,w'=over (wr) u) [] [(0,0),(0,1),(0,2),(0,3),(0,4),(0,5),(0,6),(0,7),(0,8),(0,9),(0,10),(0,11),(0,12),(0,13),(0,14),(0,15),(0,16),(0,17),(0,18),(0,19),(0,20),(0,21)] (by kernel_rfl) (by kernel_rfl) (by exact ⟨_,below_over (by repeat (first|assumption|exact Below.refl _ _|refine keep_drew ?_|refine keep_alloc ?_ _|refine keep_trans ?_ (by assumption)))⟩) ?_
        dsimp only[pickOps,nthOp]
        repeat (first|(refine wpS_skip rfl (fun K hK=>?_);go_big_quiet_op;refine hK _ ?_;clear hK K)|(refine wpS_quiet rfl rfl (fun K hK=>?_);go_big_quiet_op;refine hK _ ?_;clear hK K))
        refine wpS_end ?_
        go_wp2_with fail
        go_ret
        exact ⟨ret_bool (HH.out rfl).symm,(fB.trans (hbr.mono fB.size)).drew.drew⟩
     | false =>
      cases t2 with
      | true =>
       refine wp_region_S (fun w'=>∃u,w'=over (wr) u) [20] [(0,0),(0,1),(0,2),(0,3),(0,4),(0,5),(0,6),(0,7),(0,8),(0,9),(0,10),(0,11),(0,12),(0,13),(0,14),(0,15),(0,16),(0,17),(0,18),(0,19),(2,20)] (by kernel_rfl) (by kernel_rfl) (by exact ⟨_,below_over (by repeat (first|assumption|exact Below.refl _ _|refine keep_drew ?_|refine keep_alloc ?_ _|refine keep_trans ?_ (by assumption)))⟩) ?_
       dsimp only[pickOps,nthOp]
       repeat (first|(refine wpS_skip rfl (fun K hK=>?_);go_big_quiet_op;refine hK _ ?_;clear hK K)|(refine wpS_quiet rfl rfl (fun K hK=>?_);go_big_quiet_op;refine hK _ ?_;clear hK K))
       refine wpS_late _ _ _ rfl ?_
       dsimp only[List.map]
       go_wp2_with (fail)
       refine NoPanic.normal ?_
       cases t3 with
       | false =>
        go_wp2_with fail
        refine wp_region_S (fun w'=>∃u,w'=over (wr) u) [] [(0,0),(0,1),(0,2),(0,3),(0,4),(0,5),(0,6),(0,7),(0,8),(0,9),(0,10),(0,11),(0,12),(0,13),(0,14),(0,15),(0,16),(0,17),(0,18),(0,19),(0,20),(0,21)] (by kernel_rfl) (by kernel_rfl) (by exact ⟨_,below_over (by repeat (first|assumption|exact Below.refl _ _|refine keep_drew ?_|refine keep_alloc ?_ _|refine keep_trans ?_ (by assumption)))⟩) ?_
        dsimp only[pickOps,nthOp]
        repeat (first|(refine wpS_skip rfl (fun K hK=>?_);go_big_quiet_op;refine hK _ ?_;clear hK K)|(refine wpS_quiet rfl rfl (fun K hK=>?_);go_big_quiet_op;refine hK _ ?_;clear hK K))
        refine wpS_end ?_
        go_wp2_with fail
        go_roundw
        case rel=>exact ⟨d+1,by omega,by go_num,HN.out rfl,hbr.drew.drew⟩
        case measure=>simp[intOf];omega
       | true =>
        cases t4 with
        | false =>
         go_wp2_with fail
         refine wp_region_S (fun w'=>∃u,w'=over (wr) u) [] [(0,0),(0,1),(0,2),(0,3),(0,4),(0,5),(0,6),(0,7),(0,8),(0,9),(0,10),(0,11),(0,12),(0,13),(0,14),(0,15),(0,16),(0,17),(0,18),(0,19),(0,20),(0,21)] (by kernel_rfl) (by kernel_rfl) (by exact ⟨_,below_over (by repeat (first|assumption|exact Below.refl _ _|refine keep_drew ?_|refine keep_alloc ?_ _|refine keep_trans ?_ (by assumption)))⟩) ?_
         dsimp only[pickOps,nthOp]
         repeat (first|(refine wpS_skip rfl (fun K hK=>?_);go_big_quiet_op;refine hK _ ?_;clear hK K)|(refine wpS_quiet rfl rfl (fun K hK=>?_);go_big_quiet_op;refine hK _ ?_;clear hK K))
         refine wpS_end ?_
         go_wp2_with fail
         go_roundw
         case rel=>exact ⟨d+1,by omega,by go_num,HN.out rfl,hbr.drew.drew⟩
         case measure=>simp[intOf];omega
        | true =>
         go_wp2_with fail
         refine wp_region_S (fun w'=>∃u,w'=over (wr) u) [] [(0,0),(0,1),(0,2),(0,3),(0,4),(0,5),(0,6),(0,7),(0,8),(0,9),(0,10),(0,11),(0,12),(0,13),(0,14),(0,15),(0,16),(0,17),(0,18),(0,19),(0,20),(0,21)] (by kernel_rfl) (by kernel_rfl) (by exact ⟨_,below_over (by repeat (first|assumption|exact Below.refl _ _|refine keep_drew ?_|refine keep_alloc ?_ _|refine keep_trans ?_ (by assumption)))⟩) ?_
         dsimp only[pickOps,nthOp]
         repeat (first|(refine wpS_skip rfl (fun K hK=>?_);go_big_quiet_op;refine hK _ ?_;clear hK K)|(refine wpS_quiet rfl rfl (fun K hK=>?_);go_big_quiet_op;refine hK _ ?_;clear hK K))
         refine wpS_end ?_
         go_wp2_with fail
         go_ret
         exact ⟨ret_bool (HH.out rfl).symm,(fB.trans (hbr.mono fB.size)).drew.drew⟩
      | false =>
       refine wp_region_S (fun w'=>∃u,w'=over (wr) u) [20] [(0,0),(0,1),(0,2),(0,3),(0,4),(0,5),(0,6),(0,7),(0,8),(0,9),(0,10),(0,11),(0,12),(0,13),(0,14),(0,15),(0,16),(0,17),(0,18),(0,19),(2,20)] (by kernel_rfl) (by kernel_rfl) (by exact ⟨_,below_over (by repeat (first|assumption|exact Below.refl _ _|refine keep_drew ?_|refine keep_alloc ?_ _|refine keep_trans ?_ (by assumption)))⟩) ?_
       dsimp only[pickOps,nthOp]
       repeat (first|(refine wpS_skip rfl (fun K hK=>?_);go_big_quiet_op;refine hK _ ?_;clear hK K)|(refine wpS_quiet rfl rfl (fun K hK=>?_);go_big_quiet_op;refine hK _ ?_;clear hK K))
       refine wpS_late _ _ _ rfl ?_
       dsimp only[List.map]
       go_wp2_with (fail)
       refine NoPanic.normal ?_
       go_wp2_with fail
       refine wp_region_S (fun w'=>∃u,w'=over (wr) u) [] [(0,0),(0,1),(0,2),(0,3),(0,4),(0,5),(0,6),(0,7),(0,8),(0,9),(0,10),(0,11),(0,12),(0,13),(0,14),(0,15),(0,16),(0,17),(0,18),(0,19),(0,20),(0,21)] (by kernel_rfl) (by kernel_rfl) (by exact ⟨_,below_over (by repeat (first|assumption|exact Below.refl _ _|refine keep_drew ?_|refine keep_alloc ?_ _|refine keep_trans ?_ (by assumption)))⟩) ?_
       dsimp only[pickOps,nthOp]
       repeat (first|(refine wpS_skip rfl (fun K hK=>?_);go_big_quiet_op;refine hK _ ?_;clear hK K)|(refine wpS_quiet rfl rfl (fun K hK=>?_);go_big_quiet_op;refine hK _ ?_;clear hK K))
       refine wpS_end ?_
       go_wp2_with fail
       go_roundw
       case rel=>exact ⟨d+1,by omega,by go_num,HN.out rfl,hbr.drew.drew⟩
       case measure=>simp[intOf];omega
    ·have e:d=k:=by omega
     subst e
     go_wp2_with fail
     go_roundw
     case rel=>exact ⟨d+1,by omega,by go_num,hn2.out.row,hbr⟩
     case measure=>simp[intOf];omega
  ·have e:k=n:=by omega
   subst e
   go_wp2_with fail
   go_ret
   exact ⟨ret_bool (by rw[(show Hid (TwN C cs cs.length 0) from by rw[HL.out];exact hn1).out.none]),fB.trans (hbr.mono fB.size)⟩
end
end Go.Proofs.Ytceombamoikhdaa
