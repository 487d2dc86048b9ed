/- Texts J42 to J43 of this proof, in one file. -/
import Derived.Test.YtpkghjoippcjeaaW07
namespace Go.Proofs.Ytpkghjoippcjeaa
set_option maxRecDepth 100000
set_option maxHeartbeats 16000000
section
open Go Go.RowKit
attribute [local go_sem] over_cell
attribute [local go_sem] Oper.semAt_some
-- the arm of a call that makes a grid: its box holds zeros
def fdS (n:Nat) (cs ds:List Int) (i j:Nat):Int:=cs[i*n+j]?.getD 0+(n:Int)*ds[i*n+j]?.getD 0+1
def fdL (n:Nat) (cs ds:List Int):List Int:=madeTo n (fdS n cs ds) (n*n)
theorem enterFd:∀args w,Sem.run Try.prog (callFunc 35 args) w = .ok (.enter 35 args) w:=by
 intro args w;kernel_rfl
theorem fd1_c (n:Nat) (a:Option Addr) (m c:Nat) (cs:List Int) (a':Option Addr) (m' c':Nat) (ds:List Int) (w:World) (b0 b1 b2 i j:Nat) (h:IC w a m cs) (h':IC w a' m' ds) (S:Sq n cs) (S':Sq n ds) (hi:i<n) (hj:j<n)
  (hq0:w.heap[b0]?=some (.cells #[.int .i64 (n:Int),.int .i64 (n:Int),.slice a m c] 31 (0,0)))
  (hq1:w.heap[b1]?=some (.cells #[.int .i64 (n:Int),.int .i64 (n:Int),.slice a' m' c'] 31 (0,0)))
  (hq2:w.heap[b2]?=some (.cells #[.int .i64 (n:Int)] 3 (0,0))) :
  Calls Try.prog 35 #[.int .i64 (i:Int),.int .i64 (j:Int),.pointer (some ⟨b0,0,none⟩),.pointer (some ⟨b2,0,none⟩),.pointer (some ⟨b1,0,none⟩)] w fun e w'=>e = .returned (.int .i64 (fdS n cs ds i j))∧Below w.heap.size w w':=by
 have hn2:=S.n2
 have hp:i*n+j<n*n:=gcell_lt hi hj
 have hpm:i*n+j<m:=by rw[← h.len,S.len];exact hp
 have hpm':i*n+j<m':=by rw[← h'.len,S'.len];exact hp
 have hnn:n*n≤16*16:=Nat.mul_le_mul hn2 hn2
 unfold fdS
 have hx:=S.num (i*n+j)
 have hy:=S'.num (i*n+j)
 obtain ⟨b,off,rfl,hb,hc⟩:=h.2 _ hpm
 obtain ⟨b',off',rfl,hb',hc'⟩:=h'.2 _ hpm'
 obtain ⟨x,hxe⟩:=Int.eq_ofNat_of_zero_le hx.1
 obtain ⟨y,hye⟩:=Int.eq_ofNat_of_zero_le hy.1
 rw[hxe] at hc hx ⊢
 rw[hye] at hc' hy ⊢
 obtain ⟨p,hpe⟩:∃p,p=i*n:=⟨_,rfl⟩
 rw[← hpe] at hp hpm hpm' hc hc'
 have hmul:(n:Int)*(i:Int)=(p:Int):=by rw[← Int.natCast_mul,hpe,Nat.mul_comm]
 have hpb:p≤256:=by omega
 obtain ⟨z,hz⟩:∃z,z=n*y:=⟨_,rfl⟩
 have hzb:z≤256:=by rw[hz];exact Nat.mul_le_mul hn2 (show y≤16 by omega)
 have hmul2:(n:Int)*(y:Int)=(z:Int):=by rw[← Int.natCast_mul,← hz]
 rw[hmul2]
 have hxb:x<16:=by omega
 have hjb:j<16:=by omega
 have h3:(p:Int)+(j:Int)<(m:Int):=by omega
 have h4:(p:Int)+(j:Int)<(m':Int):=by omega
 obtain ⟨x0,x1,x2,xl⟩:=c3_of hq0
 obtain ⟨y0,y1,y2,yl⟩:=c3_of hq1
 obtain ⟨v0,v1,v2⟩:=c1_of hq2
 clear h h' hpe hz hxe hye hq0 hq1 hq2 hx hy hp hnn
 go_enter Try.func35,Try.ntmps35
 go_wp2_with fail
 refine wp_region_S (fun w'=>∃u,w'=over (w) u) [22] [(0,0),(0,1),(0,2),(0,3),(0,4),(0,5),(0,6),(0,7),(0,8),(0,9),(0,10),(0,11),(0,12),(0,13),(0,14),(0,15),(0,16),(0,17),(0,18),(0,19),(0,20),(0,21),(2,22)] (by kernel_rfl) (by kernel_rfl) (by exact ⟨_,below_over (by repeat (first|assumption|exact Below.refl _ _|refine keep_drew ?_|refine keep_alloc ?_ _|refine keep_trans ?_ (by assumption)))⟩) ?_
 dsimp only[pickOps,nthOp]
 repeat (first|(refine wpS_skip rfl (fun K hK=>?_);go_big_quiet_op;refine hK _ ?_;clear hK K)|(refine wpS_quiet rfl rfl (fun K hK=>?_);go_big_quiet_op;refine hK _ ?_;clear hK K))
 refine wpS_late _ _ _ rfl ?_
 dsimp only[List.map]
 go_wp2_with (fail)
 refine NoPanic.normal ?_
 go_wp2_with fail
 go_ret
 exact ⟨rfl,(Below.refl _ _).drew⟩
theorem fdL_len (n:Nat) (cs ds:List Int):(fdL n cs ds).length=n*n:=madeTo_len _ _ _
theorem norE_sq {n:Nat} {cs:List Int} (h1:1≤n) (h2:n≤16) (hl:cs.length=n*n):norE (n:Int) (n:Int) cs=whenV (!norB cs) 1:=by
 have:sqB (n:Int) (n:Int) cs=true:=by
  unfold sqB
  rw[hl,← Int.natCast_mul]
  simp only[Bool.and_eq_true,decide_eq_true_eq]
  exact ⟨⟨⟨trivial,by omega⟩,by omega⟩,trivial⟩
 unfold norE
 rw[if_pos this]
theorem fromdig_c (n:Nat) (a:Option Addr) (m c:Nat) (cs:List Int) (a':Option Addr) (m' c':Nat) (ds:List Int) (w:World) (h:IC w a m cs) (h':IC w a' m' ds) (S:Sq n cs) (S':Sq n ds) :
  Calls Try.prog 15 #[.agg #[.int .i64 (n:Int),.int .i64 (n:Int),.slice a m c],.agg #[.int .i64 (n:Int),.int .i64 (n:Int),.slice a' m' c']] w
   (GridE w (if norB (fdL n cs ds)=true then n else 0) (if norB (fdL n cs ds)=true then n else 0) (if norB (fdL n cs ds)=true then fdL n cs ds else []) (if norB (fdL n cs ds)=true then 0 else 9)):=by
 have HD1:=Lib.hid (fun W (hb:Below w.heap.size w W)=>udigits_c n a m c cs W (h.mono hb) S)
 have HD2:=Lib.hid (fun W (hb:Below w.heap.size w W)=>udigits_c n a' m' c' ds W (h'.mono hb) S')
 have HM:=Lib.hid (fun b0 b1 b2 W (hb:Below w.heap.size w W) (q0:W.heap[b0]?=some (.cells #[.int .i64 (n:Int),.int .i64 (n:Int),.slice a m c] 31 (0,0))) (q1:W.heap[b1]?=some (.cells #[.int .i64 (n:Int),.int .i64 (n:Int),.slice a' m' c'] 31 (0,0))) (q2:W.heap[b2]?=some (.cells #[.int .i64 (n:Int)] 3 (0,0)))=>umade_c n S.n2 35 #[] #[.pointer (some ⟨b0,0,none⟩),.pointer (some ⟨b2,0,none⟩),.pointer (some ⟨b1,0,none⟩)] (fdS n cs ds) (fdL n cs ds) W rfl enterFd (fun i j hi hj W2 hb2=>fd1_c n a m c cs a' m' c' ds W2 b0 b1 b2 i j (h.mono (keep_trans hb hb2)) (h'.mono (keep_trans hb hb2)) S S' hi hj (keepq hb2 q0) (keepq hb2 q1) (keepq hb2 q2)))
 have hlen:Hid ((fdL n cs ds).length≤17592186044416):=by show (fdL n cs ds).length≤_;rw[fdL_len];have:=Nat.mul_le_mul S.n2 S.n2;omega
 have HNE:Hid (∀W a2 c2,W.ownsRow 0 3 1 (.slice a2 (fdL n cs ds).length c2) (fdL n cs ds).length ((fdL n cs ds).map (Value.int .i64))→Calls Try.prog 22 #[.agg #[.int .i64 (n:Int),.int .i64 (n:Int),.slice a2 (fdL n cs ds).length c2]] W fun e w'=>e = .returned (.int .i64 (whenV (!norB (fdL n cs ds)) 1))∧Below W.heap.size W w'):=by
  intro W a2 c2 hown
  have:=unormal_c (n:Int) (n:Int) a2 (fdL n cs ds).length c2 (fdL n cs ds) W (IC.of_owns hown hlen.out).1
  rw[norE_sq S.n1 S.n2 (fdL_len n cs ds)] at this
  exact this
 obtain ⟨v1,hv1⟩:∃v:Int,v=0:=⟨_,rfl⟩
 obtain ⟨v2,hv2⟩:∃v:Int,v=0:=⟨_,rfl⟩
 have HF:Hid (firstL [v1,v2,whenV false 2]=0):=by rw[hv1,hv2];rfl
 have HD1:=Lib.hid (fun W (hb:Below w.heap.size w W)=>hv1▸HD1.out W hb)
 have HD2:=Lib.hid (fun W (hb:Below w.heap.size w W)=>hv2▸HD2.out W hb)
 clear hv1 hv2
 generalize fdL n cs ds=fs at HM HNE hlen ⊢
 clear h h' S S'
 cases hnb:norB fs with
 | true =>
  rw[hnb] at HNE
  rw[if_pos rfl,if_pos rfl,if_pos rfl]
  clear hnb
  rw[show whenV (!true) 1=0 from rfl] at HNE
  go_enter Try.func15,Try.ntmps15
  go_upto_region 1 with fail
  have fsz:(((w.alloc (.cells #[.int .i64 (n:Int),.int .i64 (n:Int),.slice a m c] 31)).alloc (.cells #[.int .i64 (n:Int),.int .i64 (n:Int),.slice a' m' c'] 31)).alloc (.cells #[.int .i64 0,.int .i64 0,.slice none 0 0] 31)).heap.size=w.heap.size+3:=by simp only[World.size_alloc] <;> omega
  have fB:Below w.heap.size w (((w.alloc (.cells #[.int .i64 (n:Int),.int .i64 (n:Int),.slice a m c] 31)).alloc (.cells #[.int .i64 (n:Int),.int .i64 (n:Int),.slice a' m' c'] 31)).alloc (.cells #[.int .i64 0,.int .i64 0,.slice none 0 0] 31)):=(((Below.refl _ _).alloc (Nat.le_refl _) _).alloc (by simp only[World.size_alloc];omega) _).alloc (by simp only[World.size_alloc];omega) _
  have fq0:(((w.alloc (.cells #[.int .i64 (n:Int),.int .i64 (n:Int),.slice a m c] 31)).alloc (.cells #[.int .i64 (n:Int),.int .i64 (n:Int),.slice a' m' c'] 31)).alloc (.cells #[.int .i64 0,.int .i64 0,.slice none 0 0] 31)).heap[w.heap.size]?=some (.cells #[.int .i64 (n:Int),.int .i64 (n:Int),.slice a m c] 31 (0,0)):=by have h:=World.alloc_heap_new w (.cells #[.int .i64 (n:Int),.int .i64 (n:Int),.slice a m c] 31);exact (Below.heap_alloc _ _ _ (by simp only[World.size_alloc];omega)).trans ((Below.heap_alloc _ _ _ (by simp only[World.size_alloc];omega)).trans (h))
  have fq1:(((w.alloc (.cells #[.int .i64 (n:Int),.int .i64 (n:Int),.slice a m c] 31)).alloc (.cells #[.int .i64 (n:Int),.int .i64 (n:Int),.slice a' m' c'] 31)).alloc (.cells #[.int .i64 0,.int .i64 0,.slice none 0 0] 31)).heap[w.heap.size+1]?=some (.cells #[.int .i64 (n:Int),.int .i64 (n:Int),.slice a' m' c'] 31 (0,0)):=by have h:=World.alloc_heap_new (w.alloc (.cells #[.int .i64 (n:Int),.int .i64 (n:Int),.slice a m c] 31)) (.cells #[.int .i64 (n:Int),.int .i64 (n:Int),.slice a' m' c'] 31);simp only[World.size_alloc] at h;exact (Below.heap_alloc _ _ _ (by simp only[World.size_alloc];omega)).trans (h)
  have fq2:(((w.alloc (.cells #[.int .i64 (n:Int),.int .i64 (n:Int),.slice a m c] 31)).alloc (.cells #[.int .i64 (n:Int),.int .i64 (n:Int),.slice a' m' c'] 31)).alloc (.cells #[.int .i64 0,.int .i64 0,.slice none 0 0] 31)).heap[w.heap.size+1+1]?=some (.cells #[.int .i64 0,.int .i64 0,.slice none 0 0] 31 (0,0)):=by have h:=World.alloc_heap_new ((w.alloc (.cells #[.int .i64 (n:Int),.int .i64 (n:Int),.slice a m c] 31)).alloc (.cells #[.int .i64 (n:Int),.int .i64 (n:Int),.slice a' m' c'] 31)) (.cells #[.int .i64 0,.int .i64 0,.slice none 0 0] 31);simp only[World.size_alloc] at h;exact h
  generalize (((w.alloc (.cells #[.int .i64 (n:Int),.int .i64 (n:Int),.slice a m c] 31)).alloc (.cells #[.int .i64 (n:Int),.int .i64 (n:Int),.slice a' m' c'] 31)).alloc (.cells #[.int .i64 0,.int .i64 0,.slice none 0 0] 31))=W0 at fsz fB fq0 fq1 fq2 ⊢
  obtain ⟨x0,x1,x2,xl⟩:=c3_of fq0
  obtain ⟨y0,y1,y2,yl⟩:=c3_of fq1
  have Q0:=Lib.hid fq0
  have Q1:=Lib.hid fq1
  have Q2:=Lib.hid fq2
  have HL2:=Lib.hid (q_lt fq2)
  clear fsz fq0 fq1 fq2
  refine wp_region_S (fun w'=>∃u,w'=over (W0) u) [12,11,10,9] [(0,0),(0,2),(0,4),(0,5),(0,6),(0,7),(0,8),(1,1),(1,3),(2,9),(2,10),(2,11),(2,12)] (by kernel_rfl) (by kernel_rfl) (by exact ⟨_,below_over (by repeat (first|assumption|exact Below.refl _ _|refine keep_drew ?_|refine keep_alloc ?_ _|refine keep_trans ?_ (by assumption)))⟩) ?_
  dsimp only[pickOps,nthOp]
  repeat (first|(refine wpS_skip rfl (fun K hK=>?_);go_big_quiet_op;refine hK _ ?_;clear hK K)|(refine wpS_quiet rfl rfl (fun K hK=>?_);go_big_quiet_op;refine hK _ ?_;clear hK K)|(refine wpS_loud ?_;go_wp2_with (first|(go_at_call 34;refine (HD2.out _ (keep_trans fB (keep_trans (keep_drew (Below.refl _ _)) hb1))).mono ?_;rintro _ w2 ⟨rfl,hb2⟩)|(go_at_call 34;refine (HD1.out _ (keep_trans fB (keep_drew (Below.refl _ _)))).mono ?_;rintro _ w1 ⟨rfl,hb1⟩)|(go_at_call 21;refine (uwhen_c _ _ _).mono ?_;rintro _ w3 ⟨rfl,rfl⟩)|(go_at_call 33;refine (ufirst_c _ _ _ _ _ (IC.new3 _ _ _ _ _)).mono ?_;rw[HF.out];rintro _ w4 ⟨rfl,rfl⟩));refine ⟨?_,?_⟩;focus (exact ⟨_,below_over (by repeat (first|assumption|exact Below.refl _ _|refine keep_drew ?_|refine keep_alloc ?_ _|refine keep_trans ?_ (by assumption)))⟩)))
  refine wpS_late _ _ _ rfl ?_
  dsimp only[List.map]
  go_wp2_with (first|(go_at_call 34;refine (HD2.out _ (keep_trans fB (keep_trans (keep_drew (Below.refl _ _)) hb1))).mono ?_;rintro _ w2 ⟨rfl,hb2⟩)|(go_at_call 34;refine (HD1.out _ (keep_trans fB (keep_drew (Below.refl _ _)))).mono ?_;rintro _ w1 ⟨rfl,hb1⟩)|(go_at_call 21;refine (uwhen_c _ _ _).mono ?_;rintro _ w3 ⟨rfl,rfl⟩)|(go_at_call 33;refine (ufirst_c _ _ _ _ _ (IC.new3 _ _ _ _ _)).mono ?_;rw[HF.out];rintro _ w4 ⟨rfl,rfl⟩))
  refine NoPanic.normal ?_
  have hB5:Below W0.heap.size W0 (w2.alloc (.cells #[.int .i64 v1,.int .i64 v2,.int .i64 (whenV false 2)] 32)):=keep_alloc (keep_trans (keep_trans (keep_drew (Below.refl _ _)) hb1) hb2) _
  generalize (w2.alloc (.cells #[.int .i64 v1,.int .i64 v2,.int .i64 (whenV false 2)] 32))=W5 at hB5 ⊢
  clear x0 x1 x2 xl y0 y1 y2 yl hb1 hb2
  have q50:=keepq hB5 Q0.out
  obtain ⟨x0,x1,x2,xl⟩:=c3_of q50
  go_upto_region 5 with fail
  have gsz:(W5.alloc (.cells #[.int .i64 (n:Int)] 3)).heap.size=W5.heap.size+1:=by simp only[World.size_alloc]
  have gB:Below W5.heap.size W5 (W5.alloc (.cells #[.int .i64 (n:Int)] 3)):=(Below.refl _ _).alloc (Nat.le_refl _) _
  have gq0:(W5.alloc (.cells #[.int .i64 (n:Int)] 3)).heap[W5.heap.size]?=some (.cells #[.int .i64 (n:Int)] 3 (0,0)):=by have h:=World.alloc_heap_new W5 (.cells #[.int .i64 (n:Int)] 3);exact h
  generalize (W5.alloc (.cells #[.int .i64 (n:Int)] 3))=W6 at gsz gB gq0 ⊢
  obtain ⟨y0,yf,yl⟩:=c1_of gq0
  have q60:=keepq gB q50
  have HB6:=Lib.hid (keep_trans hB5 gB)
  have HM6:=Lib.hid (HM.out w.heap.size (w.heap.size+1) W5.heap.size W6 (keep_trans fB HB6.out) q60 (keepq HB6.out Q1.out) gq0)
  have HSZ:Hid (w.heap.size+2<W6.heap.size∧w.heap.size<W0.heap.size∧W0.heap.size≤W6.heap.size):=⟨by have:=HL2.out;have:=HB6.out.size;omega,by have:=HL2.out;omega,HB6.out.size⟩
  have q62:=Lib.hid (keepq HB6.out Q2.out)
  clear gsz gq0 q50 q60 hB5 gB x0 x1 x2 xl
  go_wp2_with (first|(go_at_call 23;refine HM6.out.mono ?_;rintro _ w7 ⟨a2,c2,rfl,hown2,hb7⟩)|fail)
  have ksz:(w7.alloc (.cells #[.int .i64 (n:Int),.int .i64 (n:Int),.slice a2 fs.length c2] 31)).heap.size=w7.heap.size+1:=by simp only[World.size_alloc]
  have kB:Below w7.heap.size w7 (w7.alloc (.cells #[.int .i64 (n:Int),.int .i64 (n:Int),.slice a2 fs.length c2] 31)):=(Below.refl _ _).alloc (Nat.le_refl _) _
  have kq0:(w7.alloc (.cells #[.int .i64 (n:Int),.int .i64 (n:Int),.slice a2 fs.length c2] 31)).heap[w7.heap.size]?=some (.cells #[.int .i64 (n:Int),.int .i64 (n:Int),.slice a2 fs.length c2] 31 (0,0)):=by have h:=World.alloc_heap_new w7 (.cells #[.int .i64 (n:Int),.int .i64 (n:Int),.slice a2 fs.length c2] 31);exact h
  generalize (w7.alloc (.cells #[.int .i64 (n:Int),.int .i64 (n:Int),.slice a2 fs.length c2] 31))=W8 at ksz kB kq0 ⊢
  obtain ⟨x0,x1,x2,xl⟩:=c3_of kq0
  have hown8:=owns_keep hown2 (fun j _ hl=>kB.block j hl)
  go_wp2_with (first|(go_at_call 22;refine (HNE.out _ _ _ (owns_base hown8 (Nat.zero_le _))).mono ?_;rintro _ w9 ⟨rfl,hb9⟩;have g1:=keepq hb9 (keepq kB (keepq hb7 q62.out));have g9:=keepq hb9 kq0;clear x0 x1 x2 xl;obtain ⟨x0,x1,x2,xl⟩:=c3_of g9;obtain ⟨y0,y1,y2,yl⟩:=c3_of g1;obtain ⟨yf0,yf1,yf2⟩:=f3_of g1)|fail)
  have hB9:Below w.heap.size w w9:=keep_trans (keep_trans (keep_trans (keep_trans fB HB6.out) hb7) kB) hb9
  have hsz:=HSZ.out
  have hown2:=owns_keep hown8 (fun j _ hl=>hb9.block j hl)
  have hlt:w.heap.size≤W6.heap.size:=by omega
  have hne:(Value.slice a2 (fs).length c2).ownBlock≠some (w.heap.size+1+1):=fun e=>absurd (hown2.lt _ e).1 (by omega)
  have g3:=st3_q (x0 := .int .i64 (n:Int)) (x1 := .int .i64 (n:Int)) (x2 := .slice a2 (fs).length c2) g1
  have hown3:=st3_own (x0 := .int .i64 (n:Int)) (x1 := .int .i64 (n:Int)) (x2 := .slice a2 (fs).length c2) hown2 hne
  have hb3:=st3_below (x0 := .int .i64 (n:Int)) (x1 := .int .i64 (n:Int)) (x2 := .slice a2 (fs).length c2) (b:=w.heap.size+1+1) hB9 (by omega)
  obtain ⟨z0,z1,z2,zl⟩:=c3_of g3
  refine bodyPost_ret (v := .tuple #[.agg #[.int .i64 (n:Int),.int .i64 (n:Int),.slice a2 (fs).length c2],.int .i64 0]) ?_ rfl ⟨_,_,rfl,owns_base hown3 hlt,hb3⟩
  simp[results,Try.f15,go_sem,z0,z1,z2]
 | false =>
  rw[hnb] at HNE
  rw[if_neg (by decide),if_neg (by decide),if_neg (by decide)]
  clear hnb
  rw[show whenV (!false) 1=1 from rfl] at HNE
  go_enter Try.func15,Try.ntmps15
  go_upto_region 1 with fail
  have fsz:(((w.alloc (.cells #[.int .i64 (n:Int),.int .i64 (n:Int),.slice a m c] 31)).alloc (.cells #[.int .i64 (n:Int),.int .i64 (n:Int),.slice a' m' c'] 31)).alloc (.cells #[.int .i64 0,.int .i64 0,.slice none 0 0] 31)).heap.size=w.heap.size+3:=by simp only[World.size_alloc] <;> omega
  have fB:Below w.heap.size w (((w.alloc (.cells #[.int .i64 (n:Int),.int .i64 (n:Int),.slice a m c] 31)).alloc (.cells #[.int .i64 (n:Int),.int .i64 (n:Int),.slice a' m' c'] 31)).alloc (.cells #[.int .i64 0,.int .i64 0,.slice none 0 0] 31)):=(((Below.refl _ _).alloc (Nat.le_refl _) _).alloc (by simp only[World.size_alloc];omega) _).alloc (by simp only[World.size_alloc];omega) _
  have fq0:(((w.alloc (.cells #[.int .i64 (n:Int),.int .i64 (n:Int),.slice a m c] 31)).alloc (.cells #[.int .i64 (n:Int),.int .i64 (n:Int),.slice a' m' c'] 31)).alloc (.cells #[.int .i64 0,.int .i64 0,.slice none 0 0] 31)).heap[w.heap.size]?=some (.cells #[.int .i64 (n:Int),.int .i64 (n:Int),.slice a m c] 31 (0,0)):=by have h:=World.alloc_heap_new w (.cells #[.int .i64 (n:Int),.int .i64 (n:Int),.slice a m c] 31);exact (Below.heap_alloc _ _ _ (by simp only[World.size_alloc];omega)).trans ((Below.heap_alloc _ _ _ (by simp only[World.size_alloc];omega)).trans (h))
  have fq1:(((w.alloc (.cells #[.int .i64 (n:Int),.int .i64 (n:Int),.slice a m c] 31)).alloc (.cells #[.int .i64 (n:Int),.int .i64 (n:Int),.slice a' m' c'] 31)).alloc (.cells #[.int .i64 0,.int .i64 0,.slice none 0 0] 31)).heap[w.heap.size+1]?=some (.cells #[.int .i64 (n:Int),.int .i64 (n:Int),.slice a' m' c'] 31 (0,0)):=by have h:=World.alloc_heap_new (w.alloc (.cells #[.int .i64 (n:Int),.int .i64 (n:Int),.slice a m c] 31)) (.cells #[.int .i64 (n:Int),.int .i64 (n:Int),.slice a' m' c'] 31);simp only[World.size_alloc] at h;exact (Below.heap_alloc _ _ _ (by simp only[World.size_alloc];omega)).trans (h)
  have fq2:(((w.alloc (.cells #[.int .i64 (n:Int),.int .i64 (n:Int),.slice a m c] 31)).alloc (.cells #[.int .i64 (n:Int),.int .i64 (n:Int),.slice a' m' c'] 31)).alloc (.cells #[.int .i64 0,.int .i64 0,.slice none 0 0] 31)).heap[w.heap.size+1+1]?=some (.cells #[.int .i64 0,.int .i64 0,.slice none 0 0] 31 (0,0)):=by have h:=World.alloc_heap_new ((w.alloc (.cells #[.int .i64 (n:Int),.int .i64 (n:Int),.slice a m c] 31)).alloc (.cells #[.int .i64 (n:Int),.int .i64 (n:Int),.slice a' m' c'] 31)) (.cells #[.int .i64 0,.int .i64 0,.slice none 0 0] 31);simp only[World.size_alloc] at h;exact h
  generalize (((w.alloc (.cells #[.int .i64 (n:Int),.int .i64 (n:Int),.slice a m c] 31)).alloc (.cells #[.int .i64 (n:Int),.int .i64 (n:Int),.slice a' m' c'] 31)).alloc (.cells #[.int .i64 0,.int .i64 0,.slice none 0 0] 31))=W0 at fsz fB fq0 fq1 fq2 ⊢
  obtain ⟨x0,x1,x2,xl⟩:=c3_of fq0
  obtain ⟨y0,y1,y2,yl⟩:=c3_of fq1
  have Q0:=Lib.hid fq0
  have Q1:=Lib.hid fq1
  have Q2:=Lib.hid fq2
  have HL2:=Lib.hid (q_lt fq2)
  clear fsz fq0 fq1 fq2
  refine wp_region_S (fun w'=>∃u,w'=over (W0) u) [12,11,10,9] [(0,0),(0,2),(0,4),(0,5),(0,6),(0,7),(0,8),(1,1),(1,3),(2,9),(2,10),(2,11),(2,12)] (by kernel_rfl) (by kernel_rfl) (by exact ⟨_,below_over (by repeat (first|assumption|exact Below.refl _ _|refine keep_drew ?_|refine keep_alloc ?_ _|refine keep_trans ?_ (by assumption)))⟩) ?_
  dsimp only[pickOps,nthOp]
  repeat (first|(refine wpS_skip rfl (fun K hK=>?_);go_big_quiet_op;refine hK _ ?_;clear hK K)|(refine wpS_quiet rfl rfl (fun K hK=>?_);go_big_quiet_op;refine hK _ ?_;clear hK K)|(refine wpS_loud ?_;go_wp2_with (first|(go_at_call 34;refine (HD2.out _ (keep_trans fB (keep_trans (keep_drew (Below.refl _ _)) hb1))).mono ?_;rintro _ w2 ⟨rfl,hb2⟩)|(go_at_call 34;refine (HD1.out _ (keep_trans fB (keep_drew (Below.refl _ _)))).mono ?_;rintro _ w1 ⟨rfl,hb1⟩)|(go_at_call 21;refine (uwhen_c _ _ _).mono ?_;rintro _ w3 ⟨rfl,rfl⟩)|(go_at_call 33;refine (ufirst_c _ _ _ _ _ (IC.new3 _ _ _ _ _)).mono ?_;rw[HF.out];rintro _ w4 ⟨rfl,rfl⟩));refine ⟨?_,?_⟩;focus (exact ⟨_,below_over (by repeat (first|assumption|exact Below.refl _ _|refine keep_drew ?_|refine keep_alloc ?_ _|refine keep_trans ?_ (by assumption)))⟩)))
  refine wpS_late _ _ _ rfl ?_
  dsimp only[List.map]
  go_wp2_with (first|(go_at_call 34;refine (HD2.out _ (keep_trans fB (keep_trans (keep_drew (Below.refl _ _)) hb1))).mono ?_;rintro _ w2 ⟨rfl,hb2⟩)|(go_at_call 34;refine (HD1.out _ (keep_trans fB (keep_drew (Below.refl _ _)))).mono ?_;rintro _ w1 ⟨rfl,hb1⟩)|(go_at_call 21;refine (uwhen_c _ _ _).mono ?_;rintro _ w3 ⟨rfl,rfl⟩)|(go_at_call 33;refine (ufirst_c _ _ _ _ _ (IC.new3 _ _ _ _ _)).mono ?_;rw[HF.out];rintro _ w4 ⟨rfl,rfl⟩))
  refine NoPanic.normal ?_
  have hB5:Below W0.heap.size W0 (w2.alloc (.cells #[.int .i64 v1,.int .i64 v2,.int .i64 (whenV false 2)] 32)):=keep_alloc (keep_trans (keep_trans (keep_drew (Below.refl _ _)) hb1) hb2) _
  generalize (w2.alloc (.cells #[.int .i64 v1,.int .i64 v2,.int .i64 (whenV false 2)] 32))=W5 at hB5 ⊢
  clear x0 x1 x2 xl y0 y1 y2 yl hb1 hb2
  have q50:=keepq hB5 Q0.out
  obtain ⟨x0,x1,x2,xl⟩:=c3_of q50
  go_upto_region 5 with fail
  have gsz:(W5.alloc (.cells #[.int .i64 (n:Int)] 3)).heap.size=W5.heap.size+1:=by simp only[World.size_alloc]
  have gB:Below W5.heap.size W5 (W5.alloc (.cells #[.int .i64 (n:Int)] 3)):=(Below.refl _ _).alloc (Nat.le_refl _) _
  have gq0:(W5.alloc (.cells #[.int .i64 (n:Int)] 3)).heap[W5.heap.size]?=some (.cells #[.int .i64 (n:Int)] 3 (0,0)):=by have h:=World.alloc_heap_new W5 (.cells #[.int .i64 (n:Int)] 3);exact h
  generalize (W5.alloc (.cells #[.int .i64 (n:Int)] 3))=W6 at gsz gB gq0 ⊢
  obtain ⟨y0,yf,yl⟩:=c1_of gq0
  have q60:=keepq gB q50
  have HB6:=Lib.hid (keep_trans hB5 gB)
  have HM6:=Lib.hid (HM.out w.heap.size (w.heap.size+1) W5.heap.size W6 (keep_trans fB HB6.out) q60 (keepq HB6.out Q1.out) gq0)
  have HSZ:Hid (w.heap.size+2<W6.heap.size∧w.heap.size<W0.heap.size∧W0.heap.size≤W6.heap.size):=⟨by have:=HL2.out;have:=HB6.out.size;omega,by have:=HL2.out;omega,HB6.out.size⟩
  have q62:=Lib.hid (keepq HB6.out Q2.out)
  clear gsz gq0 q50 q60 hB5 gB x0 x1 x2 xl
  go_wp2_with (first|(go_at_call 23;refine HM6.out.mono ?_;rintro _ w7 ⟨a2,c2,rfl,hown2,hb7⟩)|fail)
  have ksz:(w7.alloc (.cells #[.int .i64 (n:Int),.int .i64 (n:Int),.slice a2 fs.length c2] 31)).heap.size=w7.heap.size+1:=by simp only[World.size_alloc]
  have kB:Below w7.heap.size w7 (w7.alloc (.cells #[.int .i64 (n:Int),.int .i64 (n:Int),.slice a2 fs.length c2] 31)):=(Below.refl _ _).alloc (Nat.le_refl _) _
  have kq0:(w7.alloc (.cells #[.int .i64 (n:Int),.int .i64 (n:Int),.slice a2 fs.length c2] 31)).heap[w7.heap.size]?=some (.cells #[.int .i64 (n:Int),.int .i64 (n:Int),.slice a2 fs.length c2] 31 (0,0)):=by have h:=World.alloc_heap_new w7 (.cells #[.int .i64 (n:Int),.int .i64 (n:Int),.slice a2 fs.length c2] 31);exact h
  generalize (w7.alloc (.cells #[.int .i64 (n:Int),.int .i64 (n:Int),.slice a2 fs.length c2] 31))=W8 at ksz kB kq0 ⊢
  obtain ⟨x0,x1,x2,xl⟩:=c3_of kq0
  have hown8:=owns_keep hown2 (fun j _ hl=>kB.block j hl)
  go_wp2_with (first|(go_at_call 22;refine (HNE.out _ _ _ (owns_base hown8 (Nat.zero_le _))).mono ?_;rintro _ w9 ⟨rfl,hb9⟩;have g1:=keepq hb9 (keepq kB (keepq hb7 q62.out));have g9:=keepq hb9 kq0;clear x0 x1 x2 xl;obtain ⟨x0,x1,x2,xl⟩:=c3_of g9;obtain ⟨y0,y1,y2,yl⟩:=c3_of g1;obtain ⟨yf0,yf1,yf2⟩:=f3_of g1)|fail)
  have hB9:Below w.heap.size w w9:=keep_trans (keep_trans (keep_trans (keep_trans fB HB6.out) hb7) kB) hb9
  have hsz:=HSZ.out
  have g3:=st3_q (x0 := .int .i64 0) (x1 := .int .i64 0) (x2 := .slice none 0 0) g1
  have hb3:=st3_below (x0 := .int .i64 0) (x1 := .int .i64 0) (x2 := .slice none 0 0) (b:=w.heap.size+1+1) hB9 (by omega)
  obtain ⟨z0,z1,z2,zl⟩:=c3_of g3
  refine bodyPost_ret (v := .tuple #[.agg #[.int .i64 0,.int .i64 0,.slice none 0 0],.int .i64 (9)]) ?_ rfl ⟨none,0,rfl,World.ownsRow_nil _ _ _ _,hb3⟩
  simp[results,Try.f15,go_sem,z0,z1,z2]
end
section
open Go Go.RowKit
attribute [local go_sem] over_cell
attribute [local go_sem] Oper.semAt_some
def dAS (n:Nat) (cs:List Int) (i j:Nat):Int:=(cs[i*n+j]?.getD 0 - 1) % (n:Int)
def dBS (n:Nat) (cs:List Int) (i j:Nat):Int:=(cs[i*n+j]?.getD 0 - 1) / (n:Int)
def dAL (n:Nat) (cs:List Int):List Int:=madeTo n (dAS n cs) (n*n)
def dBL (n:Nat) (cs:List Int):List Int:=madeTo n (dBS n cs) (n*n)
structure Nor (n:Nat) (cs:List Int):Prop where
 n1:1≤n
 n2:n≤16
 len:cs.length=n*n
 nor:norB cs=true
theorem Nor.num {n:Nat} {cs:List Int} (N:Nor n cs) {k:Nat} (hk:k<n*n):1≤cs[k]?.getD 0∧cs[k]?.getD 0≤((n*n:Nat):Int):=by
 have h:=N.nor
 unfold norB at h
 rw[List.all_eq_true] at h
 have h1:=h k (List.mem_range.2 (by rw[N.len];exact hk))
 rw[Bool.not_eq_true'] at h1
 unfold badN at h1
 rw[Bool.or_eq_false_iff,Bool.or_eq_false_iff,decide_eq_false_iff_not,decide_eq_false_iff_not,N.len] at h1
 omega
theorem enterDa:∀args w,Sem.run Try.prog (callFunc 24 args) w = .ok (.enter 24 args) w:=by
 intro args w;kernel_rfl
theorem enterDb:∀args w,Sem.run Try.prog (callFunc 25 args) w = .ok (.enter 25 args) w:=by
 intro args w;kernel_rfl
theorem dig1_c (n:Nat) (a:Option Addr) (m c:Nat) (cs:List Int) (w:World) (b0 b2 i j:Nat) (h:IC w a m cs) (N:Nor n cs) (hi:i<n) (hj:j<n)
  (hq0:w.heap[b0]?=some (.cells #[.int .i64 (n:Int),.int .i64 (n:Int),.slice a m c] 31 (0,0)))
  (hq2:w.heap[b2]?=some (.cells #[.int .i64 (n:Int)] 3 (0,0))) :
  Calls Try.prog 24 #[.int .i64 (i:Int),.int .i64 (j:Int),.pointer (some ⟨b0,0,none⟩),.pointer (some ⟨b2,0,none⟩)] w fun e w'=>e = .returned (.int .i64 (dAS n cs i j))∧Below w.heap.size w w':=by
 have hn1:=N.n1
 have hn2:=N.n2
 have hp:i*n+j<n*n:=gcell_lt hi hj
 have hpm:i*n+j<m:=by rw[← h.len,N.len];exact hp
 have hnn:n*n≤16*16:=Nat.mul_le_mul hn2 hn2
 have hx:=N.num hp
 unfold dAS
 obtain ⟨b,off,rfl,hb,hc⟩:=h.2 _ hpm
 obtain ⟨y,hye⟩:∃y:Nat,cs[i*n+j]?.getD 0=((y+1:Nat):Int):=⟨(cs[i*n+j]?.getD 0 - 1).toNat,by omega⟩
 rw[hye] at hc hx ⊢
 have hyb:y≤256:=by omega
 obtain ⟨x,hxy⟩:∃x,x=y+1:=⟨_,rfl⟩
 rw[← hxy] at hc
 have hyx:((x:Int) - 1)=(y:Int):=by omega
 rw[show (((y+1:Nat):Int) - 1)=(y:Int) by omega]
 have hxb:1≤x∧x≤257:=by omega
 obtain ⟨p,hpe⟩:∃p,p=i*n:=⟨_,rfl⟩
 rw[← hpe] at hp hpm hc
 have hmul:(n:Int)*(i:Int)=(p:Int):=by rw[← Int.natCast_mul,hpe,Nat.mul_comm]
 have hpb:p≤256:=by omega
 have hjb:j<16:=by omega
 have h3:(p:Int)+(j:Int)<(m:Int):=by omega
 have hnI:(n:Int)≠0:=by omega
 obtain ⟨x0,x1,x2,xl⟩:=c3_of hq0
 obtain ⟨v0,v1,v2⟩:=c1_of hq2
 have hdv:Hid (wrap64 ((y:Int) / (n:Int))=(y:Int) / (n:Int)):=by show wrap64 ((y:Int) / (n:Int))=(y:Int) / (n:Int);rw[divw (by omega)];rfl
 clear h hpe hye hq0 hq2 hx hp hnn hxy
 go_enter Try.func24,Try.ntmps24
 go_wp2_with fail
 refine wp_region_S (fun w'=>∃u,w'=over (w) u) [12] [(0,0),(0,1),(0,2),(0,3),(0,4),(0,5),(0,6),(0,7),(0,8),(0,9),(0,10),(0,11),(2,12)] (by kernel_rfl) (by kernel_rfl) (by exact ⟨_,below_over (by repeat (first|assumption|exact Below.refl _ _|refine keep_drew ?_|refine keep_alloc ?_ _|refine keep_trans ?_ (by assumption)))⟩) ?_
 dsimp only[pickOps,nthOp]
 repeat (first|(refine wpS_skip rfl (fun K hK=>?_);go_big_quiet_op;refine hK _ ?_;clear hK K)|(refine wpS_quiet rfl rfl (fun K hK=>?_);go_big_quiet_op;refine hK _ ?_;clear hK K))
 refine wpS_late _ _ _ rfl ?_
 dsimp only[List.map]
 go_wp2_with (fail)
 refine NoPanic.normal ?_
 go_wp2_with fail
 go_ret
 exact ⟨rfl,(Below.refl _ _).drew⟩
theorem dig2_c (n:Nat) (a:Option Addr) (m c:Nat) (cs:List Int) (w:World) (b0 b2 i j:Nat) (h:IC w a m cs) (N:Nor n cs) (hi:i<n) (hj:j<n)
  (hq0:w.heap[b0]?=some (.cells #[.int .i64 (n:Int),.int .i64 (n:Int),.slice a m c] 31 (0,0)))
  (hq2:w.heap[b2]?=some (.cells #[.int .i64 (n:Int)] 3 (0,0))) :
  Calls Try.prog 25 #[.int .i64 (i:Int),.int .i64 (j:Int),.pointer (some ⟨b0,0,none⟩),.pointer (some ⟨b2,0,none⟩)] w fun e w'=>e = .returned (.int .i64 (dBS n cs i j))∧Below w.heap.size w w':=by
 have hn1:=N.n1
 have hn2:=N.n2
 have hp:i*n+j<n*n:=gcell_lt hi hj
 have hpm:i*n+j<m:=by rw[← h.len,N.len];exact hp
 have hnn:n*n≤16*16:=Nat.mul_le_mul hn2 hn2
 have hx:=N.num hp
 unfold dBS
 obtain ⟨b,off,rfl,hb,hc⟩:=h.2 _ hpm
 obtain ⟨y,hye⟩:∃y:Nat,cs[i*n+j]?.getD 0=((y+1:Nat):Int):=⟨(cs[i*n+j]?.getD 0 - 1).toNat,by omega⟩
 rw[hye] at hc hx ⊢
 have hyb:y≤256:=by omega
 obtain ⟨x,hxy⟩:∃x,x=y+1:=⟨_,rfl⟩
 rw[← hxy] at hc
 have hyx:((x:Int) - 1)=(y:Int):=by omega
 rw[show (((y+1:Nat):Int) - 1)=(y:Int) by omega]
 have hxb:1≤x∧x≤257:=by omega
 obtain ⟨p,hpe⟩:∃p,p=i*n:=⟨_,rfl⟩
 rw[← hpe] at hp hpm hc
 have hmul:(n:Int)*(i:Int)=(p:Int):=by rw[← Int.natCast_mul,hpe,Nat.mul_comm]
 have hpb:p≤256:=by omega
 have hjb:j<16:=by omega
 have h3:(p:Int)+(j:Int)<(m:Int):=by omega
 have hnI:(n:Int)≠0:=by omega
 obtain ⟨x0,x1,x2,xl⟩:=c3_of hq0
 obtain ⟨v0,v1,v2⟩:=c1_of hq2
 have hdv:Hid (wrap64 ((y:Int) / (n:Int))=(y:Int) / (n:Int)):=by show wrap64 ((y:Int) / (n:Int))=(y:Int) / (n:Int);rw[divw (by omega)];rfl
 clear h hpe hye hq0 hq2 hx hp hnn hxy
 go_enter Try.func25,Try.ntmps25
 go_wp2_with fail
 refine wp_region_S (fun w'=>∃u,w'=over (w) u) [12] [(0,0),(0,1),(0,2),(0,3),(0,4),(0,5),(0,6),(0,7),(0,8),(0,9),(0,10),(0,11),(2,12)] (by kernel_rfl) (by kernel_rfl) (by exact ⟨_,below_over (by repeat (first|assumption|exact Below.refl _ _|refine keep_drew ?_|refine keep_alloc ?_ _|refine keep_trans ?_ (by assumption)))⟩) ?_
 dsimp only[pickOps,nthOp]
 repeat (first|(refine wpS_skip rfl (fun K hK=>?_);go_big_quiet_op;refine hK _ ?_;clear hK K)|(refine wpS_quiet rfl rfl (fun K hK=>?_);go_big_quiet_op;refine hK _ ?_;clear hK K))
 refine wpS_late _ _ _ rfl ?_
 dsimp only[List.map]
 go_wp2_with (fail)
 refine NoPanic.normal ?_
 go_wp2_with fail
 go_ret
 exact ⟨ret_int hdv.out,(Below.refl _ _).drew⟩
theorem st6 {W W':World} {A B:Nat} {u0 u1 u2 v0 v1 v2 x0 x1 x2 y0 y1 y2:Value} {T T2:TypeId} (qA:W.heap[A]?=some (.cells #[u0,u1,u2] T (0,0))) (qB:W.heap[B]?=some (.cells #[v0,v1,v2] T2 (0,0))) (hne:A≠B)
  (hb:Below ((((((W.setCell ⟨A,0,none⟩ x0).setCell ⟨A,1,none⟩ x1).setCell ⟨A,2,none⟩ x2).setCell ⟨B,0,none⟩ y0).setCell ⟨B,1,none⟩ y1).setCell ⟨B,2,none⟩ y2).heap.size ((((((W.setCell ⟨A,0,none⟩ x0).setCell ⟨A,1,none⟩ x1).setCell ⟨A,2,none⟩ x2).setCell ⟨B,0,none⟩ y0).setCell ⟨B,1,none⟩ y1).setCell ⟨B,2,none⟩ y2) W') :
  W'.heap[A]?=some (.cells #[x0,x1,x2] T (0,0))∧W'.heap[B]?=some (.cells #[y0,y1,y2] T2 (0,0)) ∧
  (∀(K n:Nat) (e:TypeId) (v:Value) (xs:List Value),W.ownsRow K e 1 v n xs→v.ownBlock≠some A→v.ownBlock≠some B→W'.ownsRow K e 1 v n xs) ∧
  (∀(K:Nat) (w:World),Below K w W→K≤A→K≤B→K≤W.heap.size→Below K w W'):=by
 have a:=st3_q (x0:=x0) (x1:=x1) (x2:=x2) qA
 have b:=q_other (i:=2) (q_other (i:=1) (q_other (i:=0) qB hne.symm x0) hne.symm x1) hne.symm x2
 have c:=q_other (i:=2) (q_other (i:=1) (q_other (i:=0) a hne y0) hne y1) hne y2
 have d:=st3_q (x0:=y0) (x1:=y1) (x2:=y2) b
 have hs:W.heap.size≤((((((W.setCell ⟨A,0,none⟩ x0).setCell ⟨A,1,none⟩ x1).setCell ⟨A,2,none⟩ x2).setCell ⟨B,0,none⟩ y0).setCell ⟨B,1,none⟩ y1).setCell ⟨B,2,none⟩ y2).heap.size:=((((((KeepsOthers.setCell W ⟨A,0,none⟩ x0).trans (KeepsOthers.setCell _ ⟨A,1,none⟩ x1)).trans (KeepsOthers.setCell _ ⟨A,2,none⟩ x2)).trans (KeepsOthers.setCell _ ⟨B,0,none⟩ y0)).trans (KeepsOthers.setCell _ ⟨B,1,none⟩ y1)).trans (KeepsOthers.setCell _ ⟨B,2,none⟩ y2)).size
 refine ⟨keepq hb c,keepq hb d,fun K n e v xs h h1 h2=>?_,fun K w h h1 h2 h3=>?_⟩
 ·have h5:=st3_own (x0:=x0) (x1:=x1) (x2:=x2) h h1
  have h6:=st3_own (x0:=y0) (x1:=y1) (x2:=y2) h5 h2
  exact owns_keep h6 (fun k _ hl=>hb.block k hl)
 ·have h5:=st3_below (x0:=x0) (x1:=x1) (x2:=x2) h h1
  have h6:=st3_below (x0:=y0) (x1:=y1) (x2:=y2) h5 h2
  exact h6.trans (hb.mono (Nat.le_trans h3 hs))
theorem digits_c (n:Nat) (a:Option Addr) (m c:Nat) (cs:List Int) (w:World) (h:IC w a m cs) (N:Nor n cs) :
  Calls Try.prog 8 #[.agg #[.int .i64 (n:Int),.int .i64 (n:Int),.slice a m c]] w fun e w'=>∃a1 c1 a2 c2,
   e = .returned (.tuple #[.agg #[.int .i64 (n:Int),.int .i64 (n:Int),.slice a1 (dAL n cs).length c1],.agg #[.int .i64 (n:Int),.int .i64 (n:Int),.slice a2 (dBL n cs).length c2],.int .i64 0]) ∧
   w'.ownsRow w.heap.size 3 1 (.slice a1 (dAL n cs).length c1) (dAL n cs).length ((dAL n cs).map (Value.int .i64))∧w'.ownsRow w.heap.size 3 1 (.slice a2 (dBL n cs).length c2) (dBL n cs).length ((dBL n cs).map (Value.int .i64))∧Below w.heap.size w w':=by
 have HNO:Hid (∀W,Below w.heap.size w W→Calls Try.prog 22 #[.agg #[.int .i64 (n:Int),.int .i64 (n:Int),.slice a m c]] W fun e w'=>e = .returned (.int .i64 0)∧Below W.heap.size W w'):=by
  intro W hb
  have:=unormal_c (n:Int) (n:Int) a m c cs W (h.mono hb)
  rw[norE_sq N.n1 N.n2 N.len,N.nor] at this
  exact this
 have HMA:=Lib.hid (fun b0 b2 W (hb:Below w.heap.size w W) (q0:W.heap[b0]?=some (.cells #[.int .i64 (n:Int),.int .i64 (n:Int),.slice a m c] 31 (0,0))) (q2:W.heap[b2]?=some (.cells #[.int .i64 (n:Int)] 3 (0,0)))=>umade_c n N.n2 24 #[] #[.pointer (some ⟨b0,0,none⟩),.pointer (some ⟨b2,0,none⟩)] (dAS n cs) (dAL n cs) W rfl enterDa (fun i j hi hj W2 hb2=>dig1_c n a m c cs W2 b0 b2 i j (h.mono (keep_trans hb hb2)) N hi hj (keepq hb2 q0) (keepq hb2 q2)))
 have HMB:=Lib.hid (fun b0 b2 W (hb:Below w.heap.size w W) (q0:W.heap[b0]?=some (.cells #[.int .i64 (n:Int),.int .i64 (n:Int),.slice a m c] 31 (0,0))) (q2:W.heap[b2]?=some (.cells #[.int .i64 (n:Int)] 3 (0,0)))=>umade_c n N.n2 25 #[] #[.pointer (some ⟨b0,0,none⟩),.pointer (some ⟨b2,0,none⟩)] (dBS n cs) (dBL n cs) W rfl enterDb (fun i j hi hj W2 hb2=>dig2_c n a m c cs W2 b0 b2 i j (h.mono (keep_trans hb hb2)) N hi hj (keepq hb2 q0) (keepq hb2 q2)))
 clear h N
 generalize dAL n cs=ls at HMA ⊢
 generalize dBL n cs=rs at HMB ⊢
 go_enter Try.func8,Try.ntmps8
 go_upto_region 1 with fail
 have fsz:(((w.alloc (.cells #[.int .i64 (n:Int),.int .i64 (n:Int),.slice a m c] 31)).alloc (.cells #[.int .i64 0,.int .i64 0,.slice none 0 0] 31)).alloc (.cells #[.int .i64 0,.int .i64 0,.slice none 0 0] 31)).heap.size=w.heap.size+3:=by simp only[World.size_alloc] <;> omega
 have fB:Below w.heap.size w (((w.alloc (.cells #[.int .i64 (n:Int),.int .i64 (n:Int),.slice a m c] 31)).alloc (.cells #[.int .i64 0,.int .i64 0,.slice none 0 0] 31)).alloc (.cells #[.int .i64 0,.int .i64 0,.slice none 0 0] 31)):=(((Below.refl _ _).alloc (Nat.le_refl _) _).alloc (by simp only[World.size_alloc];omega) _).alloc (by simp only[World.size_alloc];omega) _
 have fq0:(((w.alloc (.cells #[.int .i64 (n:Int),.int .i64 (n:Int),.slice a m c] 31)).alloc (.cells #[.int .i64 0,.int .i64 0,.slice none 0 0] 31)).alloc (.cells #[.int .i64 0,.int .i64 0,.slice none 0 0] 31)).heap[w.heap.size]?=some (.cells #[.int .i64 (n:Int),.int .i64 (n:Int),.slice a m c] 31 (0,0)):=by have h:=World.alloc_heap_new w (.cells #[.int .i64 (n:Int),.int .i64 (n:Int),.slice a m c] 31);exact (Below.heap_alloc _ _ _ (by simp only[World.size_alloc];omega)).trans ((Below.heap_alloc _ _ _ (by simp only[World.size_alloc];omega)).trans (h))
 have fq1:(((w.alloc (.cells #[.int .i64 (n:Int),.int .i64 (n:Int),.slice a m c] 31)).alloc (.cells #[.int .i64 0,.int .i64 0,.slice none 0 0] 31)).alloc (.cells #[.int .i64 0,.int .i64 0,.slice none 0 0] 31)).heap[w.heap.size+1]?=some (.cells #[.int .i64 0,.int .i64 0,.slice none 0 0] 31 (0,0)):=by have h:=World.alloc_heap_new (w.alloc (.cells #[.int .i64 (n:Int),.int .i64 (n:Int),.slice a m c] 31)) (.cells #[.int .i64 0,.int .i64 0,.slice none 0 0] 31);simp only[World.size_alloc] at h;exact (Below.heap_alloc _ _ _ (by simp only[World.size_alloc];omega)).trans (h)
 have fq2:(((w.alloc (.cells #[.int .i64 (n:Int),.int .i64 (n:Int),.slice a m c] 31)).alloc (.cells #[.int .i64 0,.int .i64 0,.slice none 0 0] 31)).alloc (.cells #[.int .i64 0,.int .i64 0,.slice none 0 0] 31)).heap[w.heap.size+1+1]?=some (.cells #[.int .i64 0,.int .i64 0,.slice none 0 0] 31 (0,0)):=by have h:=World.alloc_heap_new ((w.alloc (.cells #[.int .i64 (n:Int),.int .i64 (n:Int),.slice a m c] 31)).alloc (.cells #[.int .i64 0,.int .i64 0,.slice none 0 0] 31)) (.cells #[.int .i64 0,.int .i64 0,.slice none 0 0] 31);simp only[World.size_alloc] at h;exact h
 generalize (((w.alloc (.cells #[.int .i64 (n:Int),.int .i64 (n:Int),.slice a m c] 31)).alloc (.cells #[.int .i64 0,.int .i64 0,.slice none 0 0] 31)).alloc (.cells #[.int .i64 0,.int .i64 0,.slice none 0 0] 31))=W0 at fsz fB fq0 fq1 fq2 ⊢
 obtain ⟨x0,x1,x2,xl⟩:=c3_of fq0
 have Q0:=Lib.hid fq0
 have Q1:=Lib.hid fq1
 have Q2:=Lib.hid fq2
 have HL2:=Lib.hid (q_lt fq2)
 clear fsz fq0 fq1 fq2
 go_upto_region 5 with (first|(go_at_call 22;refine (HNO.out _ fB).mono ?_;rintro _ w1 ⟨rfl,hb1⟩;clear x0 x1 x2 xl;have q1:=keepq hb1 Q0.out;obtain ⟨x0,x1,x2,xl⟩:=c3_of q1))
 have gsz:(w1.alloc (.cells #[.int .i64 (n:Int)] 3)).heap.size=w1.heap.size+1:=by simp only[World.size_alloc]
 have gB:Below w1.heap.size w1 (w1.alloc (.cells #[.int .i64 (n:Int)] 3)):=(Below.refl _ _).alloc (Nat.le_refl _) _
 have gq0:(w1.alloc (.cells #[.int .i64 (n:Int)] 3)).heap[w1.heap.size]?=some (.cells #[.int .i64 (n:Int)] 3 (0,0)):=by have h:=World.alloc_heap_new w1 (.cells #[.int .i64 (n:Int)] 3);exact h
 generalize (w1.alloc (.cells #[.int .i64 (n:Int)] 3))=W6 at gsz gB gq0 ⊢
 obtain ⟨y0,yf,yl⟩:=c1_of gq0
 have HB6:=Lib.hid (keep_trans hb1 gB)
 have HG0:=Lib.hid gq0
 have HM6:=Lib.hid (HMA.out w.heap.size w1.heap.size W6 (keep_trans fB HB6.out) (keepq HB6.out Q0.out) gq0)
 have HSZ:Hid (w.heap.size+2<W0.heap.size∧W0.heap.size≤W6.heap.size):=⟨HL2.out,HB6.out.size⟩
 clear gsz gq0 x0 x1 x2 xl q1
 go_upto_region 6 with (first|(go_at_call 23;refine HM6.out.mono ?_;rintro _ w7 ⟨a1,c1,rfl,hown1,hb7⟩))
 have ksz:(w7.alloc (.cells #[.int .i64 (n:Int),.int .i64 (n:Int),.slice a1 ls.length c1] 31)).heap.size=w7.heap.size+1:=by simp only[World.size_alloc]
 have kB:Below w7.heap.size w7 (w7.alloc (.cells #[.int .i64 (n:Int),.int .i64 (n:Int),.slice a1 ls.length c1] 31)):=(Below.refl _ _).alloc (Nat.le_refl _) _
 have kq0:(w7.alloc (.cells #[.int .i64 (n:Int),.int .i64 (n:Int),.slice a1 ls.length c1] 31)).heap[w7.heap.size]?=some (.cells #[.int .i64 (n:Int),.int .i64 (n:Int),.slice a1 ls.length c1] 31 (0,0)):=by have h:=World.alloc_heap_new w7 (.cells #[.int .i64 (n:Int),.int .i64 (n:Int),.slice a1 ls.length c1] 31);exact h
 generalize (w7.alloc (.cells #[.int .i64 (n:Int),.int .i64 (n:Int),.slice a1 ls.length c1] 31))=W8 at ksz kB kq0 ⊢
 have hown8:=owns_keep hown1 (fun j _ hl=>kB.block j hl)
 have HB68:=Lib.hid (keep_trans hb7 kB)
 have HB8:=Lib.hid (keep_trans HB6.out HB68.out)
 have hk0:=keepq HB68.out HG0.out
 have HM8:=Lib.hid (HMB.out w.heap.size w1.heap.size W8 (keep_trans fB HB8.out) (keepq HB8.out Q0.out) hk0)
 clear y0 yf yl
 obtain ⟨y0,yf,yl⟩:=c1_of hk0
 have KQ:=Lib.hid kq0
 have HO8:=Lib.hid hown8
 clear ksz kq0 hown1 hk0 hown8
 go_upto_region 7 with (first|(go_at_call 23;refine HM8.out.mono ?_;rintro _ w9 ⟨a2,c2,rfl,hown2,hb9⟩))
 have lsz:(w9.alloc (.cells #[.int .i64 (n:Int),.int .i64 (n:Int),.slice a2 rs.length c2] 31)).heap.size=w9.heap.size+1:=by simp only[World.size_alloc]
 have lB:Below w9.heap.size w9 (w9.alloc (.cells #[.int .i64 (n:Int),.int .i64 (n:Int),.slice a2 rs.length c2] 31)):=(Below.refl _ _).alloc (Nat.le_refl _) _
 have lq0:(w9.alloc (.cells #[.int .i64 (n:Int),.int .i64 (n:Int),.slice a2 rs.length c2] 31)).heap[w9.heap.size]?=some (.cells #[.int .i64 (n:Int),.int .i64 (n:Int),.slice a2 rs.length c2] 31 (0,0)):=by have h:=World.alloc_heap_new w9 (.cells #[.int .i64 (n:Int),.int .i64 (n:Int),.slice a2 rs.length c2] 31);exact h
 generalize (w9.alloc (.cells #[.int .i64 (n:Int),.int .i64 (n:Int),.slice a2 rs.length c2] 31))=W10 at lsz lB lq0 ⊢
 have hB10:=Lib.hid (keep_trans hb9 lB)
 obtain ⟨u0,u1,u2,ul⟩:=c3_of (keepq hB10.out KQ.out)
 obtain ⟨v0,v1,v2,vl⟩:=c3_of lq0
 have q101:=keepq hB10.out (keepq HB8.out Q1.out)
 have q102:=keepq hB10.out (keepq HB8.out Q2.out)
 obtain ⟨d0,d1,d2,dl⟩:=c3_of q101
 obtain ⟨df0,df1,df2⟩:=f3_of q101
 obtain ⟨e0,e1,e2,el⟩:=c3_of q102
 obtain ⟨ef0,ef1,ef2⟩:=f3_of q102
 clear lsz lq0
 have hz7:W6.heap.size≤w7.heap.size:=hb7.size
 have hz8:w7.heap.size≤W8.heap.size:=kB.size
 have hz9:W8.heap.size≤w9.heap.size:=hb9.size
 have hsz:=HSZ.out
 have n1:w7.heap.size≠w.heap.size+1:=by omega
 have n2:w7.heap.size≠w.heap.size+1+1:=by omega
 have n3:w9.heap.size≠w.heap.size+1:=by omega
 have n4:w9.heap.size≠w.heap.size+1+1:=by omega
 have n5:w.heap.size+1≠w.heap.size+1+1:=by omega
 have n1':=n1.symm
 have n2':=n2.symm
 have n3':=n3.symm
 have n4':=n4.symm
 have n5':=n5.symm
 clear hsz hz7 hz8 hz9
 go_region
 have hD:Below ((((((W10.setCell ⟨w.heap.size+1,0,none⟩ (.int .i64 (n:Int))).setCell ⟨w.heap.size+1,1,none⟩ (.int .i64 (n:Int))).setCell ⟨w.heap.size+1,2,none⟩ (.slice a1 ls.length c1)).setCell ⟨w.heap.size+1+1,0,none⟩ (.int .i64 (n:Int))).setCell ⟨w.heap.size+1+1,1,none⟩ (.int .i64 (n:Int))).setCell ⟨w.heap.size+1+1,2,none⟩ (.slice a2 rs.length c2)).heap.size ((((((W10.setCell ⟨w.heap.size+1,0,none⟩ (.int .i64 (n:Int))).setCell ⟨w.heap.size+1,1,none⟩ (.int .i64 (n:Int))).setCell ⟨w.heap.size+1,2,none⟩ (.slice a1 ls.length c1)).setCell ⟨w.heap.size+1+1,0,none⟩ (.int .i64 (n:Int))).setCell ⟨w.heap.size+1+1,1,none⟩ (.int .i64 (n:Int))).setCell ⟨w.heap.size+1+1,2,none⟩ (.slice a2 rs.length c2)) ((((((W10.setCell ⟨w.heap.size+1,0,none⟩ (.int .i64 (n:Int))).setCell ⟨w.heap.size+1,1,none⟩ (.int .i64 (n:Int))).setCell ⟨w.heap.size+1,2,none⟩ (.slice a1 ls.length c1)).setCell ⟨w.heap.size+1+1,0,none⟩ (.int .i64 (n:Int))).setCell ⟨w.heap.size+1+1,1,none⟩ (.int .i64 (n:Int))).setCell ⟨w.heap.size+1+1,2,none⟩ (.slice a2 rs.length c2)).drew:=keep_drew (Below.refl _ _)
 obtain ⟨gA,gB,hO,hB⟩:=st6 (x0 := .int .i64 (n:Int)) (x1 := .int .i64 (n:Int)) (x2 := .slice a1 ls.length c1) (y0 := .int .i64 (n:Int)) (y1 := .int .i64 (n:Int)) (y2 := .slice a2 rs.length c2) q101 q102 n5 hD
 clear hD
 generalize ((((((W10.setCell ⟨w.heap.size+1,0,none⟩ (.int .i64 (n:Int))).setCell ⟨w.heap.size+1,1,none⟩ (.int .i64 (n:Int))).setCell ⟨w.heap.size+1,2,none⟩ (.slice a1 ls.length c1)).setCell ⟨w.heap.size+1+1,0,none⟩ (.int .i64 (n:Int))).setCell ⟨w.heap.size+1+1,1,none⟩ (.int .i64 (n:Int))).setCell ⟨w.heap.size+1+1,2,none⟩ (.slice a2 rs.length c2)).drew=W11 at gA gB hO hB ⊢
 go_wp2_with fail
 have hsz:=HSZ.out
 have hz8:=HB68.out.size
 have hz9:W8.heap.size≤W10.heap.size:=hB10.out.size
 have o1:=hO _ _ _ _ _ (owns_keep HO8.out (fun j _ hl=>hB10.out.block j hl)) (fun e=>by have:=(HO8.out.lt _ e).1;omega) (fun e=>by have:=(HO8.out.lt _ e).1;omega)
 have o2:=hO _ _ _ _ _ (owns_keep hown2 (fun j _ hl=>lB.block j hl)) (fun e=>by have:=(hown2.lt _ e).1;omega) (fun e=>by have:=(hown2.lt _ e).1;omega)
 have hBf:=hB w.heap.size w (keep_trans (keep_trans fB HB8.out) hB10.out) (by omega) (by omega) (by omega)
 obtain ⟨z0,z1,z2,zl⟩:=c3_of gA
 obtain ⟨s0,s1,s2,sl⟩:=c3_of gB
 refine bodyPost_ret (v := .tuple #[.agg #[.int .i64 (n:Int),.int .i64 (n:Int),.slice a1 ls.length c1],.agg #[.int .i64 (n:Int),.int .i64 (n:Int),.slice a2 rs.length c2],.int .i64 0]) ?_ rfl ⟨_,_,_,_,rfl,owns_base o1 (by omega),owns_base o2 (by omega),hBf⟩
 simp[results,Try.f8,go_sem,z0,z1,z2,s0,s1,s2]
end
end Go.Proofs.Ytpkghjoippcjeaa
