/- Texts J30 to J31 of this proof, in one file. -/
import Derived.Test.YtpkghjoippcjeaaW02
import Derived.Test.YtpkghjoippcjeaaW05
namespace Go.Proofs.Ytpkghjoippcjeaa
set_option maxRecDepth 100000
set_option maxHeartbeats 16000000
section
open Go Go.RowKit
attribute [local go_sem] over_cell
attribute [local go_sem] Oper.semAt_some
theorem isof_c (i j:Int) (w:World):Calls Try.prog 91 #[.int .i64 i,.int .i64 j] w fun e w'=>e = .returned (.int .i64 (-1))∧Below w.heap.size w w':=by
 go_enter Try.func91,Try.ntmps91
 go_wp2
 go_ret
 exact ⟨rfl,Below.refl _ _⟩
theorem enterIso:∀args w,Sem.run Try.prog (callFunc 91 args) w = .ok (.enter 91 args) w:=by
 intro args w;kernel_rfl
theorem made_const (x:Int) (N:Nat) (k:Nat):madeTo N (fun _ _=>x) k=List.replicate k x:=by
 unfold madeTo
 induction k with
 | zero=>rfl
 | succ k ih=>rw[List.range_succ,List.map_append,ih,List.replicate_succ'];rfl
def isoTo (n:Nat) (rows cols names cs:List Int) (k:Nat):List Int:=putAll ((List.range k).map fun c=>(nat rows (c / n)*n+nat cols (c % n),names[nat cs c]?.getD 0)) (List.replicate (n*n) (-1))
theorem isoTo_len (n:Nat) (rows cols names cs:List Int) (k:Nat):(isoTo n rows cols names cs k).length=n*n:=by unfold isoTo;rw[putAll_len,List.length_replicate]
theorem isoTo_succ (n:Nat) (rows cols names cs:List Int) (k:Nat):isoTo n rows cols names cs (k+1)=(isoTo n rows cols names cs k).set (nat rows (k / n)*n+nat cols (k % n)) (names[nat cs k]?.getD 0):=by
 unfold isoTo
 rw[List.range_succ,List.map_append,List.map_singleton,putAll_snoc]
theorem isoTo_end (n:Nat) (rows cols names cs:List Int):isoTo n rows cols names cs (n*n)=isoL (-1) n rows cols names cs:=rfl
structure NumL (n:Nat) (p:List Int):Prop where
 len:p.length=n
 num:∀x,x∈p→0≤x∧x<(n:Int)
theorem NumL.get {n:Nat} {p:List Int} (P:NumL n p) {i:Nat} (hi:i<n):p[i]?.getD 0=(nat p i:Int)∧nat p i<n:=by
 unfold nat
 rw[List.getElem?_eq_getElem (by rw[P.len];exact hi),Option.getD_some]
 have:=P.num _ (List.getElem_mem (by rw[P.len];exact hi:i<p.length))
 omega
theorem wrapmul {a b p:Nat} (hp:p=a*b) (h:p≤1000000):wrap64 ((a:Int)*(b:Int))=(p:Int):=by
 rw[← Int.natCast_mul,← hp];unfold wrap64;omega
theorem wrapadd {a b p:Nat} (hp:p=a+b) (h:p≤1000000):wrap64 ((a:Int)+(b:Int))=(p:Int):=by
 rw[← Int.natCast_add,← hp];unfold wrap64;omega
def IsoI (W0:World) (b b9 g:Nat) (n:Int) (m c:Nat) (a:Option Addr) (c2:Nat) (xs:List Int) (W:World):Prop :=
 W.heap[b]?=some (.cells #[.int .i64 n,.int .i64 n,.slice a m c] 31 (0,0))∧W.heap[b+1]?=some (.cells #[.int .i64 0,.int .i64 0,.slice none 0 0] 31 (0,0)) ∧
  W.heap[b9]?=some (.cells #[.int .i64 n,.int .i64 n,.slice (some ⟨g,0,none⟩) m c2] 31 (0,0))∧W.ownsRow W0.heap.size 3 1 (.slice (some ⟨g,0,none⟩) m c2) m (xs.map (Value.int .i64))∧Below W0.heap.size W0 W
theorem isotope_c (n:Nat) (a:Option Addr) (m c:Nat) (cs:List Int) (ar:Option Addr) (cr:Nat) (rows:List Int) (ak:Option Addr) (ck:Nat) (cols:List Int) (an:Option Addr) (cn:Nat) (names:List Int) (w:World)
  (h:IC w a m cs) (S:Sq n cs) (hr:IC w ar n rows) (R:NumL n rows) (hk:IC w ak n cols) (K:NumL n cols) (hn:IC w an n names) (N:NumL n names) :
  Calls Try.prog 77 #[.agg #[.int .i64 (n:Int),.int .i64 (n:Int),.slice a m c],.slice ar n cr,.slice ak n ck,.slice an n cn] w (GridM w (n:Int) (n:Int) (isoL (-1) n rows cols names cs)):=by
 have hm:=h.small
 have hn1:=S.n1
 have hn2:=S.n2
 have hmq:m=n*n:=by rw[← h.len,S.len]
 have hmb:m≤256:=by rw[hmq];exact Nat.le_trans (Nat.mul_le_mul hn2 hn2) (by decide)
 rw[← isoTo_end,← hmq]
 have HMQ:=Lib.hid hmq
 clear hmq
 go_enter Try.func77,Try.ntmps77
 go_upto_region 1 with fail
 have fsz:((w.alloc (.cells #[.int .i64 (n:Int),.int .i64 (n:Int),.slice a m c] 31)).alloc (.cells #[.int .i64 0,.int .i64 0,.slice none 0 0] 31)).heap.size=w.heap.size+2:=by simp only[World.size_alloc] <;> omega
 have fB:Below w.heap.size w ((w.alloc (.cells #[.int .i64 (n:Int),.int .i64 (n:Int),.slice a m c] 31)).alloc (.cells #[.int .i64 0,.int .i64 0,.slice none 0 0] 31)):=((Below.refl _ _).alloc (Nat.le_refl _) _).alloc (by simp only[World.size_alloc];omega) _
 have fq0:((w.alloc (.cells #[.int .i64 (n:Int),.int .i64 (n:Int),.slice a m c] 31)).alloc (.cells #[.int .i64 0,.int .i64 0,.slice none 0 0] 31)).heap[w.heap.size]?=some (.cells #[.int .i64 (n:Int),.int .i64 (n:Int),.slice a m c] 31 (0,0)):=by have h:=World.alloc_heap_new w (.cells #[.int .i64 (n:Int),.int .i64 (n:Int),.slice a m c] 31);exact (Below.heap_alloc _ _ _ (by simp only[World.size_alloc];omega)).trans (h)
 have fq1:((w.alloc (.cells #[.int .i64 (n:Int),.int .i64 (n:Int),.slice a m c] 31)).alloc (.cells #[.int .i64 0,.int .i64 0,.slice none 0 0] 31)).heap[w.heap.size+1]?=some (.cells #[.int .i64 0,.int .i64 0,.slice none 0 0] 31 (0,0)):=by have h:=World.alloc_heap_new (w.alloc (.cells #[.int .i64 (n:Int),.int .i64 (n:Int),.slice a m c] 31)) (.cells #[.int .i64 0,.int .i64 0,.slice none 0 0] 31);simp only[World.size_alloc] at h;exact h
 generalize ((w.alloc (.cells #[.int .i64 (n:Int),.int .i64 (n:Int),.slice a m c] 31)).alloc (.cells #[.int .i64 0,.int .i64 0,.slice none 0 0] 31))=W0 at fsz fB fq0 fq1 ⊢
 have H:=Lib.hid (h.mono fB)
 have HR:=Lib.hid (hr.mono fB)
 have HK:=Lib.hid (hk.mono fB)
 have HN:=Lib.hid (hn.mono fB)
 clear h hr hk hn
 obtain ⟨x0,x1,x2,xl⟩:=c3_of fq0
 have Q0:=Lib.hid fq0
 have Q1:=Lib.hid fq1
 have hl1:=q_lt fq1
 have HL2:=Lib.hid hl1
 have HM:=Lib.hid (made_g n (by omega) 91 #[] #[] (fun _ _ => -1) (isoTo n rows cols names cs 0) W0 (by rw[made_const];rfl) enterIso (fun i j _ _ W _=>isof_c (i:Int) (j:Int) W))
 clear fsz fq0 fq1
 go_upto_region 2 with (first|(go_at_call 90;refine HM.out.mono ?_;rintro _ w2 ⟨a2,c2,rfl,hown2,hb2⟩;rw[isoTo_len,← HMQ.out] at hown2;rw[isoTo_len,← HMQ.out]))
 have hm1:0<m:=by rw[HMQ.out];exact Nat.mul_pos hn1 hn1
 obtain ⟨g,cap9,x9,hv9,_⟩:=owns_free hown2 0 hm1
 simp only[Value.slice.injEq] at hv9
 obtain ⟨rfl,_,rfl⟩:=hv9
 have hB2:Hid (Below w.heap.size w w2):=keep_trans fB hb2
 have HGB:=Lib.hid (hown2.lt g rfl)
 have hB3:Below w2.heap.size w2 (w2.alloc (.cells #[.int .i64 (n:Int),.int .i64 (n:Int),.slice (some ⟨g,0,none⟩) m c2] 31)):=(Below.refl _ _).alloc (Nat.le_refl _) _
 have q9:(w2.alloc (.cells #[.int .i64 (n:Int),.int .i64 (n:Int),.slice (some ⟨g,0,none⟩) m c2] 31)).heap[w2.heap.size]?=some (.cells #[.int .i64 (n:Int),.int .i64 (n:Int),.slice (some ⟨g,0,none⟩) m c2] 31 (0,0)):=World.alloc_heap_new _ _
 have hown3:=owns_keep hown2 (fun k _ hl=>hB3.block k hl)
 have p0:=keepq hB3 (keepq hb2 Q0.out)
 have p1:=keepq hB3 (keepq hb2 Q1.out)
 generalize (w2.alloc (.cells #[.int .i64 (n:Int),.int .i64 (n:Int),.slice (some ⟨g,0,none⟩) m c2] 31))=W3 at hB3 q9 hown3 p0 p1 ⊢
 obtain ⟨b9,hb9⟩:∃b9,b9=w2.heap.size:=⟨_,rfl⟩
 rw[← hb9] at q9 HGB ⊢
 have hB03:Hid (Below W0.heap.size W0 W3):=keep_trans hb2 hB3
 have HB9:Hid (W0.heap.size≤b9∧g<b9∧W0.heap.size≤g):=by have:=hb2.size;have:=HGB.out;unfold Hid;omega
 clear hb9 hB3 hb2 hown2 HGB x0 x1 x2 xl hl1
 obtain ⟨x0,x1,x2,xl⟩:=c3_of p0
 have HST:Hid (IsoI W0 w.heap.size b9 g (n:Int) m c a c2 (isoTo n rows cols names cs 0) W3):=⟨p0,p1,q9,hown3,hB03.out⟩
 clear p0 p1 q9 hown3
 go_wp2_with fail
 go_loopw [10,11,18] (fun _ _ s wr=>∃k:Nat,k≤m∧s = .int .i64 k∧Hid (IsoI W0 w.heap.size b9 g (n:Int) m c a c2 (isoTo n rows cols names cs k) wr)) (fun _ _ s _=>m - (intOf s).toNat)
 case atStart=>exact ⟨0,by omega,rfl,HST⟩
 case round =>
  obtain ⟨k,hk,rfl,hI⟩:=hrel
  clear x0 x1 x2 xl
  obtain ⟨p0,p1,q9,hown,hbr⟩:=hI.out
  by_cases hlt:k<m
  ·obtain ⟨b,off,rfl,hb,hc⟩:=(H.out.mono hbr).2 k hlt
   have hki:(k:Int)<(m:Int):=by omega
   have hnI:(n:Int)≠0:=by omega
   have hkn:k<n*n:=by rw[← HMQ.out];exact hlt
   have HSU:=Lib.hid (isoTo_succ n rows cols names cs k)
   obtain ⟨q,hq⟩:∃q,q=k / n:=⟨_,rfl⟩
   obtain ⟨r,hr2⟩:∃r,r=k % n:=⟨_,rfl⟩
   have hqb:q<n:=by rw[hq];exact Nat.div_lt_of_lt_mul hkn
   have hrb:r<n:=by rw[hr2];exact Nat.mod_lt _ (by omega)
   have hdv:wrap64 ((k:Int) / (n:Int))=(q:Int):=by rw[divw (by omega),hq]
   have hmv:(k:Int) % (n:Int)=(r:Int):=by rw[modw,hr2]
   rw[← hq,← hr2] at HSU
   have hx:=S.num k
   obtain ⟨x,hxe⟩:∃x:Nat,x=nat cs k:=⟨_,rfl⟩
   have hxi:cs[k]?.getD 0=(x:Int):=by rw[hxe];unfold nat;omega
   rw[← hxe] at HSU
   rw[hxi] at hc hx
   obtain ⟨rv,hrv⟩:∃v,v=nat rows q:=⟨_,rfl⟩
   obtain ⟨cv,hcv⟩:∃v,v=nat cols r:=⟨_,rfl⟩
   have hrl:=R.get hqb
   have hcl:=K.get hrb
   have hnl:=N.get (i:=x) (by omega)
   rw[← hrv] at hrl HSU
   rw[← hcv] at hcl HSU
   obtain ⟨br,offr,rfl,hbr2,hcr⟩:=(HR.out.mono hbr).2 q hqb
   obtain ⟨bk,offk,rfl,hbk2,hck⟩:=(HK.out.mono hbr).2 r hrb
   obtain ⟨bn,offn,rfl,hbn2,hcn⟩:=(HN.out.mono hbr).2 x (by omega)
   rw[hrl.1] at hcr
   rw[hcl.1] at hck
   obtain ⟨nv,hnv⟩:∃v,v=names[x]?.getD 0:=⟨_,rfl⟩
   rw[← hnv] at hcn HSU
   have hpn:rv*n+cv<n*n:=gcell_lt hrl.2 hcl.2
   rw[← HMQ.out] at hpn
   obtain ⟨p,hp⟩:∃p,p=rv*n:=⟨_,rfl⟩
   rw[← hp] at hpn HSU
   have hmul:wrap64 ((rv:Int)*(n:Int))=(p:Int):=wrapmul hp (by clear hdv hmv;omega)
   obtain ⟨e,he⟩:∃e,e=p+cv:=⟨_,rfl⟩
   have hadd:wrap64 ((p:Int)+(cv:Int))=(e:Int):=wrapadd he (by clear hdv hmv hmul;omega)
   rw[← he] at hpn HSU
   obtain ⟨g2,cap2,x2,hv2,_,hcg,hfg,hgl,_⟩:=owns_free hown e hpn
   simp only[Value.slice.injEq,Option.some.injEq,Addr.mk.injEq,and_true,true_and] at hv2
   obtain ⟨rfl,_⟩:=hv2
   have h1:(q:Int)<(n:Int):=Int.ofNat_lt.2 hqb
   have h2:(r:Int)<(n:Int):=Int.ofNat_lt.2 hrb
   have h3:(x:Int)<(n:Int):=hx.2
   have h4:(e:Int)<(m:Int):=Int.ofNat_lt.2 hpn
   have P0:=Lib.hid p0
   have P1:=Lib.hid p1
   have P9:=Lib.hid q9
   have HOW:=Lib.hid hown
   obtain ⟨y0,y1,y2,yl⟩:=c3_of q9
   obtain ⟨x0,x1,x2,xl⟩:=c3_of p0
   clear he hq hr2 hxe hxi hrv hcv hnv hp hrl hcl hnl p0 p1 q9 hown hx
   go_wp2_with fail
   refine wp_region_S (fun w'=>∃u,w'=over (wr) u) [25] [(0,0),(0,1),(0,2),(0,3),(0,4),(0,5),(0,6),(0,7),(0,8),(0,9),(0,10),(0,11),(0,12),(0,13),(0,14),(0,15),(0,16),(0,17),(0,18),(0,19),(0,20),(0,21),(0,22),(0,23),(0,24),(2,25)] (by kernel_rfl) (by kernel_rfl) (by exact ⟨_,below_over (by repeat (first|assumption|exact Below.refl _ _|refine keep_drew ?_|refine keep_alloc ?_ _|refine keep_trans ?_ (by assumption)))⟩) ?_
   dsimp only[pickOps,nthOp]
   repeat (first|(refine wpS_skip rfl (fun K hK=>?_);go_big_quiet_op;refine hK _ ?_;clear hK K)|(refine wpS_quiet rfl rfl (fun K hK=>?_);go_big_quiet_op;refine hK _ ?_;clear hK K))
   refine wpS_late _ _ _ rfl ?_
   dsimp only[List.map]
   go_wp2_with (fail)
   refine NoPanic.normal ?_
   have hgb:=HB9.out
   have hwW:=fB.size
   have P0':=q_other (i:=e) P0.out (show w.heap.size≠g by have:=HL2.out;omega) (.int .i64 nv)
   have P1':=q_other (i:=e) P1.out (show w.heap.size+1≠g by have:=HL2.out;omega) (.int .i64 nv)
   have P9':=q_other (i:=e) P9.out (show b9≠g by omega) (.int .i64 nv)
   have HOW':=owns_set HOW.out e (.int .i64 nv)
   rw[← List.map_set,← HSU.out] at HOW'
   have hbr':=hbr.setCell (p:=⟨g,e,none⟩) (show W0.heap.size≤g by omega) (.int .i64 nv)
   clear y0 y1 y2 yl x0 x1 x2 xl hc hcr hck hcn hcg hfg
   go_wp2_with fail
   go_roundw
   case rel=>exact ⟨k+1,by omega,by go_num,by first|exact ⟨P0',P1',P9',HOW',hbr'⟩|exact ⟨P0',P1',P9',HOW',hbr'.drew⟩⟩
   case measure=>simp[intOf];omega
  ·have e:k=m:=by omega
   subst e
   obtain ⟨y0,y1,y2,yl⟩:=c3_of q9
   obtain ⟨z0,z1,z2,zl⟩:=c3_of p1
   obtain ⟨zf0,zf1,zf2⟩:=f3_of p1
   have P1:=Lib.hid p1
   have HOW:=Lib.hid hown
   clear p0 p1 q9 hown
   go_wp2_with fail
   have g3:=st3_q (x0 := .int .i64 (n:Int)) (x1 := .int .i64 (n:Int)) (x2 := .slice (some ⟨g,0,none⟩) k c2) P1.out
   have hown3:=st3_own (x0 := .int .i64 (n:Int)) (x1 := .int .i64 (n:Int)) (x2 := .slice (some ⟨g,0,none⟩) k c2) HOW.out (b:=w.heap.size+1) (fun e=>by have h1:=(HOW.out.lt _ e).1;have:=HL2.out;omega)
   have hb3:=st3_below (x0 := .int .i64 (n:Int)) (x1 := .int .i64 (n:Int)) (x2 := .slice (some ⟨g,0,none⟩) k c2) (b:=w.heap.size+1) (fB.trans (hbr.mono fB.size)) (by omega)
   obtain ⟨z0,z1,z2,zl⟩:=c3_of g3
   have hlen:(isoTo n rows cols names cs k).length=k:=by rw[isoTo_len,HMQ.out]
   refine bodyPost_ret (v := .agg #[.int .i64 (n:Int),.int .i64 (n:Int),.slice (some ⟨g,0,none⟩) k c2]) ?_ rfl ⟨_,_,by rw[hlen],by rw[hlen];exact owns_base hown3 fB.size,hb3⟩
   simp[results,Try.f77,go_sem,z0,z1,z2]
theorem sameL_len (n:Nat):(sameL n).length=n:=by simp[sameL]
theorem sameTo_succ (k:Nat):sameL (k+1)=sameL k++[(k:Int)]:=by unfold sameL;rw[List.range_succ,List.map_append];rfl
theorem sameL_num (n:Nat):NumL n (sameL n):=⟨sameL_len n,fun x hx=>by
 unfold sameL at hx
 obtain ⟨i,hi,rfl⟩:=List.mem_map.1 hx
 rw[List.mem_range] at hi
 omega⟩
theorem same4_c (n:Nat) (w:World) (hn:n≤256):Calls Try.prog 78 #[.int .i64 (n:Int)] w fun e w'=>∃a c,e = .returned (.slice a n c)∧w'.ownsRow w.heap.size 3 1 (.slice a n c) n ((sameL n).map (Value.int .i64))∧Below w.heap.size w w':=by
 obtain ⟨i0,hi,hz0,hz1,hz2⟩:=info_parts infoInt
 go_enter Try.func78,Try.ntmps78
 go_wp2_with fail
 go_loopw [3,4,6] (fun v _ s wr=>∃k:Nat,k≤n∧s = .int .i64 k∧wr.ownsRow w.heap.size 3 1 v k ((sameL k).map (Value.int .i64))∧Below w.heap.size w wr) (fun _ _ s _=>n - (intOf s).toNat)
 case atStart=>exact ⟨0,by omega,rfl,World.ownsRow_nil _ _ _ _,Below.refl _ _⟩
 case round =>
  obtain ⟨k,hk,rfl,hown,hbr⟩:=hrel
  have hsz:=hbr.size
  by_cases hlt:k<n
  ·have HSU:=Lib.hid (sameTo_succ k)
   have HO:=Lib.hid hown
   obtain ⟨av,cv,rfl⟩:=owns_shape hown
   clear hown
   go_wp2_with (first|(at_builtin;refine wpList_append_any _ rfl _ _ 29 rfl w.heap.size 3 i0 (.int .i64 0) 8 Try.underlying29 hi hz0 hz1 hz2 rfl _ _ _ rfl (HO.out.alloc _) (by simp only[World.size_alloc];omega) _ _ _ [.int .i64 (k:Int)] rfl rfl (.inl ⟨_,rfl,cell_one_new _ _ _⟩) (by simp[Value.oneCell']) (by unfold maxLen;omega) (by omega) ?_;intro v7 w7 hown7 hst7 hk7;have hbw:=hst7.below' (by simp only[World.size_alloc];omega) (hbr.alloc hsz _) (fun k e=>(HO.out.lt k e).1)))
   go_roundw
   case rel=>exact ⟨k+1,by omega,by go_num,by rw[HSU.out,List.map_append];exact hown7,hbw⟩
   case measure=>simp[intOf];omega
  ·have e:k=n:=by omega
   subst e
   obtain ⟨av,cv,rfl⟩:=owns_shape hown
   go_wp2_with fail
   go_ret
   exact ⟨_,_,rfl,hown,hbr⟩
end
section
open Go Go.RowKit
attribute [local go_sem] over_cell
attribute [local go_sem] Oper.semAt_some
theorem IC.own {w:World} {B:Nat} {a:Option Addr} {n c:Nat} {xs:List Int} (h:w.ownsRow B 3 1 (.slice a n c) n (xs.map (Value.int .i64))) (hl:xs.length=n) (hs:n≤17592186044416):IC w a n xs∧n≤c:=by
 subst hl
 exact IC.of_owns h hs
theorem rowZ_num {n:Nat} {cs:List Int} (S:Sq n cs):NumL n (rowZ n cs):=⟨by
 unfold rowZ
 rw[List.length_take,S.len]
 exact Nat.min_eq_left (Nat.le_mul_of_pos_right n S.n1),fun x hx=>by
 obtain ⟨i,hi,e⟩:=List.getElem_of_mem (List.mem_of_mem_take hx)
 have:=S.num i
 rw[List.getElem?_eq_getElem hi,Option.getD_some,e] at this
 exact this⟩
def colTo (n:Nat) (cs:List Int) (k:Nat):List Int:=(List.range k).map fun i=>cs[i*n]?.getD 0
theorem colTo_succ (n:Nat) (cs:List Int) (k:Nat):colTo n cs (k+1)=colTo n cs k++[cs[k*n]?.getD 0]:=by unfold colTo;rw[List.range_succ,List.map_append];rfl
theorem colTo_len (n:Nat) (cs:List Int) (k:Nat):(colTo n cs k).length=k:=by simp[colTo]
theorem own_apart {w:World} {B n b:Nat} {t:TypeId} {v:Value} {xs:List Value} (h:w.ownsRow B t 1 v n xs) (hb:b<B):v.ownBlock≠some b:=fun e=>absurd (h.lt _ e).1 (by omega)
theorem alloc_lt (w:World) (o:Obj):w.heap.size<(w.alloc o).heap.size:=by rw[World.size_alloc];omega
def RedI (W0:World) (b9 m c5:Nat) (n:Int) (a5:Option Addr) (by1:List Int) (W:World):Prop :=
 W.heap[b9]?=some (.cells #[.int .i64 n,.int .i64 n,.slice a5 m c5] 31 (0,0))∧W.ownsRow W0.heap.size 3 1 (.slice a5 m c5) m (by1.map (Value.int .i64))∧Below W0.heap.size W0 W∧W0.heap.size≤b9
theorem reduced_c (n:Nat) (a:Option Addr) (m c:Nat) (cs:List Int) (w:World) (h:IC w a m cs) (hcap:m≤c) (L:Latin n cs) :
  Calls Try.prog 51 #[.agg #[.int .i64 (n:Int),.int .i64 (n:Int),.slice a m c]] w (GridM w (n:Int) (n:Int) (reduL (-1) n cs)):=by
 have hm:=h.small
 have S:=L.sq
 have hn1:=S.n1
 have hn2:=S.n2
 have hmq:m=n*n:=by rw[← h.len,S.len]
 have hmb:m≤256:=by rw[hmq];exact Nat.le_trans (Nat.mul_le_mul hn2 hn2) (by decide)
 have hnm:n≤m:=by rw[hmq];exact Nat.le_mul_of_pos_right n hn1
 have HMQ:=Lib.hid hmq
 obtain ⟨by1,hby1⟩:∃x,x=isoL (-1) n (sameL n) (rowZ n cs) (sameL n) cs:=⟨_,rfl⟩
 have hre:reduL (-1) n cs=isoL (-1) n (colZ n by1) (sameL n) (sameL n) by1:=by unfold reduL;rw[hby1]
 have LB:Latin n by1:=by rw[hby1];exact iso_latin L sameL_perm L.rowZ sameL_perm
 have HCZ:=Lib.hid LB.colZ
 have hbl:by1.length=m:=by rw[hby1,iso_len,hmq]
 rw[hre]
 have HBY:=Lib.hid hby1
 have SB:=LB.sq
 have HSM:=Lib.hid (fun W=>same4_c n W (by omega))
 have HI1:=Lib.hid (fun W (hw:Below w.heap.size w W) (ar:Option Addr) (cr:Nat) (a9:Option Addr) (c9:Nat) (h1:IC W ar n (sameL n)) (h2:IC W a9 n (sameL n))=>isotope_c n a m c cs ar cr (sameL n) a c (rowZ n cs) a9 c9 (sameL n) W (h.mono hw) S h1 (sameL_num n) (show IC W a n (rowZ n cs) from (h.mono hw).take n hnm) (rowZ_num S) h2 (sameL_num n))
 rw[← hby1] at HI1
 clear hmq hre hby1
 obtain ⟨i0,hi,hz0,hz1,hz2⟩:=info_parts infoInt
 go_enter Try.func51,Try.ntmps51
 go_upto_region 1 with fail
 have fsz:((w.alloc (.cells #[.int .i64 (n:Int),.int .i64 (n:Int),.slice a m c] 31)).alloc (.cells #[.int .i64 0,.int .i64 0,.slice none 0 0] 31)).heap.size=w.heap.size+2:=by simp only[World.size_alloc] <;> omega
 have fB:Below w.heap.size w ((w.alloc (.cells #[.int .i64 (n:Int),.int .i64 (n:Int),.slice a m c] 31)).alloc (.cells #[.int .i64 0,.int .i64 0,.slice none 0 0] 31)):=((Below.refl _ _).alloc (Nat.le_refl _) _).alloc (by simp only[World.size_alloc];omega) _
 have fq0:((w.alloc (.cells #[.int .i64 (n:Int),.int .i64 (n:Int),.slice a m c] 31)).alloc (.cells #[.int .i64 0,.int .i64 0,.slice none 0 0] 31)).heap[w.heap.size]?=some (.cells #[.int .i64 (n:Int),.int .i64 (n:Int),.slice a m c] 31 (0,0)):=by have h:=World.alloc_heap_new w (.cells #[.int .i64 (n:Int),.int .i64 (n:Int),.slice a m c] 31);exact (Below.heap_alloc _ _ _ (by simp only[World.size_alloc];omega)).trans (h)
 have fq1:((w.alloc (.cells #[.int .i64 (n:Int),.int .i64 (n:Int),.slice a m c] 31)).alloc (.cells #[.int .i64 0,.int .i64 0,.slice none 0 0] 31)).heap[w.heap.size+1]?=some (.cells #[.int .i64 0,.int .i64 0,.slice none 0 0] 31 (0,0)):=by have h:=World.alloc_heap_new (w.alloc (.cells #[.int .i64 (n:Int),.int .i64 (n:Int),.slice a m c] 31)) (.cells #[.int .i64 0,.int .i64 0,.slice none 0 0] 31);simp only[World.size_alloc] at h;exact h
 generalize ((w.alloc (.cells #[.int .i64 (n:Int),.int .i64 (n:Int),.slice a m c] 31)).alloc (.cells #[.int .i64 0,.int .i64 0,.slice none 0 0] 31))=W0 at fsz fB fq0 fq1 ⊢
 obtain ⟨x0,x1,x2,xl⟩:=c3_of fq0
 have Q0:=Lib.hid fq0
 have Q1:=Lib.hid fq1
 have hl1:=q_lt fq1
 clear fsz fq0 fq1 h
 have hnmI:(n:Int)≤(m:Int):=by omega
 have hncI:(n:Int)≤(c:Int):=by omega
 go_upto_region 2 with fail
 go_cut [4] from 9 to 18 (fun v wx=>∃(a5:Option Addr) (c5 b9:Nat),v = .pointer (some ⟨b9,0,none⟩)∧Hid (RedI W0 b9 m c5 (n:Int) a5 by1 wx))
 case first =>
  refine wp_region_tree (fun w'=>∃u,w'=over (W0) u) [11] (.fork [0,1,3,4,5,6,7] 2 10 (.fork [] 8 10 (.fork [] 9 10 (.leaf [(1,10),(2,11)]) (.leaf [(1,9),(2,11)])) (.leaf [(1,8),(1,9),(2,11)])) (.leaf [(1,2),(1,8),(1,9),(2,11)])) (by kernel_rfl) (by kernel_rfl) (by exact ⟨_,below_over (by repeat (first|assumption|exact Below.refl _ _|refine keep_drew ?_|refine keep_alloc ?_ _|refine keep_trans ?_ (by assumption)))⟩) ?_
  all_goals try (refine ⟨?_,?_⟩ <;> dsimp only[List.map,List.cons_append,List.nil_append,pickOps,nthOp])
  all_goals repeat (first|(refine wpS_skip rfl (fun K hK=>?_);go_big_quiet_op;refine hK _ ?_;clear hK K)|(refine wpS_quiet rfl rfl (fun K hK=>?_);go_big_quiet_op;refine hK _ ?_;clear hK K)|(refine wpS_loud ?_;go_wp2_with (first|(go_at_call 78;have hX:=hb1;clear hX;refine (HSM.out _).mono ?_;rintro _ w2 ⟨as2,cs2,rfl,hos2,hb2⟩)|(go_at_call 78;refine (HSM.out _).mono ?_;rintro _ w1 ⟨as1,cs1,rfl,hos1,hb1⟩)|(go_at_call 77;refine (HI1.out _ (by (repeat (first|assumption|exact Below.refl _ _|refine keep_drew ?_|refine keep_alloc ?_ _|refine keep_trans ?_ (by assumption)))) _ _ _ _ ((IC.own hos1 (sameL_len n) (by omega)).1.mono (by (repeat (first|assumption|exact Below.refl _ _|refine keep_drew ?_|refine keep_alloc ?_ _|refine keep_trans ?_ (by assumption))))) ((IC.own hos2 (sameL_len n) (by omega)).1.mono (by (repeat (first|assumption|exact Below.refl _ _|refine keep_drew ?_|refine keep_alloc ?_ _|refine keep_trans ?_ (by assumption)))))).mono ?_;rintro _ w5 ⟨a5,c5,rfl,hos5,hb5⟩;rw[hbl] at hos5;rw[hbl];have HB5:Hid (Below W0.heap.size W0 w5):=(by unfold Hid;(repeat (first|assumption|exact Below.refl _ _|refine keep_drew ?_|refine keep_alloc ?_ _|refine keep_trans ?_ (by assumption))));have HOS:Hid (w5.ownsRow W0.heap.size 3 1 (.slice a5 m c5) m (by1.map (Value.int .i64))):=owns_base hos5 (Below.size (B:=W0.heap.size) (by (repeat (first|assumption|exact Below.refl _ _|refine keep_drew ?_|refine keep_alloc ?_ _|refine keep_trans ?_ (by assumption)))))));refine ⟨?_,?_⟩;focus (exact ⟨_,below_over (by repeat (first|assumption|exact Below.refl _ _|refine keep_drew ?_|refine keep_alloc ?_ _|refine keep_set ?_ (by first|omega|(dsimp only;omega)) _|refine keep_trans ?_ (by assumption)))⟩)))
  all_goals try refine wpTr_end ?_
  all_goals try (refine ⟨?_,?_⟩ <;> dsimp only[List.map,List.cons_append,List.nil_append,pickOps,nthOp])
  all_goals repeat (first|(refine wpS_skip rfl (fun K hK=>?_);go_big_quiet_op;refine hK _ ?_;clear hK K)|(refine wpS_quiet rfl rfl (fun K hK=>?_);go_big_quiet_op;refine hK _ ?_;clear hK K)|(refine wpS_loud ?_;go_wp2_with (first|(go_at_call 78;have hX:=hb1;clear hX;refine (HSM.out _).mono ?_;rintro _ w2 ⟨as2,cs2,rfl,hos2,hb2⟩)|(go_at_call 78;refine (HSM.out _).mono ?_;rintro _ w1 ⟨as1,cs1,rfl,hos1,hb1⟩)|(go_at_call 77;refine (HI1.out _ (by (repeat (first|assumption|exact Below.refl _ _|refine keep_drew ?_|refine keep_alloc ?_ _|refine keep_trans ?_ (by assumption)))) _ _ _ _ ((IC.own hos1 (sameL_len n) (by omega)).1.mono (by (repeat (first|assumption|exact Below.refl _ _|refine keep_drew ?_|refine keep_alloc ?_ _|refine keep_trans ?_ (by assumption))))) ((IC.own hos2 (sameL_len n) (by omega)).1.mono (by (repeat (first|assumption|exact Below.refl _ _|refine keep_drew ?_|refine keep_alloc ?_ _|refine keep_trans ?_ (by assumption)))))).mono ?_;rintro _ w5 ⟨a5,c5,rfl,hos5,hb5⟩;rw[hbl] at hos5;rw[hbl];have HB5:Hid (Below W0.heap.size W0 w5):=(by unfold Hid;(repeat (first|assumption|exact Below.refl _ _|refine keep_drew ?_|refine keep_alloc ?_ _|refine keep_trans ?_ (by assumption))));have HOS:Hid (w5.ownsRow W0.heap.size 3 1 (.slice a5 m c5) m (by1.map (Value.int .i64))):=owns_base hos5 (Below.size (B:=W0.heap.size) (by (repeat (first|assumption|exact Below.refl _ _|refine keep_drew ?_|refine keep_alloc ?_ _|refine keep_trans ?_ (by assumption)))))));refine ⟨?_,?_⟩;focus (exact ⟨_,below_over (by repeat (first|assumption|exact Below.refl _ _|refine keep_drew ?_|refine keep_alloc ?_ _|refine keep_set ?_ (by first|omega|(dsimp only;omega)) _|refine keep_trans ?_ (by assumption)))⟩)))
  all_goals try refine wpTr_end ?_
  all_goals try (refine ⟨?_,?_⟩ <;> dsimp only[List.map,List.cons_append,List.nil_append,pickOps,nthOp])
  all_goals repeat (first|(refine wpS_skip rfl (fun K hK=>?_);go_big_quiet_op;refine hK _ ?_;clear hK K)|(refine wpS_quiet rfl rfl (fun K hK=>?_);go_big_quiet_op;refine hK _ ?_;clear hK K)|(refine wpS_loud ?_;go_wp2_with (first|(go_at_call 78;have hX:=hb1;clear hX;refine (HSM.out _).mono ?_;rintro _ w2 ⟨as2,cs2,rfl,hos2,hb2⟩)|(go_at_call 78;refine (HSM.out _).mono ?_;rintro _ w1 ⟨as1,cs1,rfl,hos1,hb1⟩)|(go_at_call 77;refine (HI1.out _ (by (repeat (first|assumption|exact Below.refl _ _|refine keep_drew ?_|refine keep_alloc ?_ _|refine keep_trans ?_ (by assumption)))) _ _ _ _ ((IC.own hos1 (sameL_len n) (by omega)).1.mono (by (repeat (first|assumption|exact Below.refl _ _|refine keep_drew ?_|refine keep_alloc ?_ _|refine keep_trans ?_ (by assumption))))) ((IC.own hos2 (sameL_len n) (by omega)).1.mono (by (repeat (first|assumption|exact Below.refl _ _|refine keep_drew ?_|refine keep_alloc ?_ _|refine keep_trans ?_ (by assumption)))))).mono ?_;rintro _ w5 ⟨a5,c5,rfl,hos5,hb5⟩;rw[hbl] at hos5;rw[hbl];have HB5:Hid (Below W0.heap.size W0 w5):=(by unfold Hid;(repeat (first|assumption|exact Below.refl _ _|refine keep_drew ?_|refine keep_alloc ?_ _|refine keep_trans ?_ (by assumption))));have HOS:Hid (w5.ownsRow W0.heap.size 3 1 (.slice a5 m c5) m (by1.map (Value.int .i64))):=owns_base hos5 (Below.size (B:=W0.heap.size) (by (repeat (first|assumption|exact Below.refl _ _|refine keep_drew ?_|refine keep_alloc ?_ _|refine keep_trans ?_ (by assumption)))))));refine ⟨?_,?_⟩;focus (exact ⟨_,below_over (by repeat (first|assumption|exact Below.refl _ _|refine keep_drew ?_|refine keep_alloc ?_ _|refine keep_set ?_ (by first|omega|(dsimp only;omega)) _|refine keep_trans ?_ (by assumption)))⟩)))
  all_goals try refine wpTr_end ?_
  all_goals try dsimp only[wpTr,pickOps,nthOp]
  all_goals repeat (first|(refine wpS_skip rfl (fun K hK=>?_);go_big_quiet_op;refine hK _ ?_;clear hK K)|(refine wpS_quiet rfl rfl (fun K hK=>?_);go_big_quiet_op;refine hK _ ?_;clear hK K)|(refine wpS_loud ?_;go_wp2_with (first|(go_at_call 78;have hX:=hb1;clear hX;refine (HSM.out _).mono ?_;rintro _ w2 ⟨as2,cs2,rfl,hos2,hb2⟩)|(go_at_call 78;refine (HSM.out _).mono ?_;rintro _ w1 ⟨as1,cs1,rfl,hos1,hb1⟩)|(go_at_call 77;refine (HI1.out _ (by (repeat (first|assumption|exact Below.refl _ _|refine keep_drew ?_|refine keep_alloc ?_ _|refine keep_trans ?_ (by assumption)))) _ _ _ _ ((IC.own hos1 (sameL_len n) (by omega)).1.mono (by (repeat (first|assumption|exact Below.refl _ _|refine keep_drew ?_|refine keep_alloc ?_ _|refine keep_trans ?_ (by assumption))))) ((IC.own hos2 (sameL_len n) (by omega)).1.mono (by (repeat (first|assumption|exact Below.refl _ _|refine keep_drew ?_|refine keep_alloc ?_ _|refine keep_trans ?_ (by assumption)))))).mono ?_;rintro _ w5 ⟨a5,c5,rfl,hos5,hb5⟩;rw[hbl] at hos5;rw[hbl];have HB5:Hid (Below W0.heap.size W0 w5):=(by unfold Hid;(repeat (first|assumption|exact Below.refl _ _|refine keep_drew ?_|refine keep_alloc ?_ _|refine keep_trans ?_ (by assumption))));have HOS:Hid (w5.ownsRow W0.heap.size 3 1 (.slice a5 m c5) m (by1.map (Value.int .i64))):=owns_base hos5 (Below.size (B:=W0.heap.size) (by (repeat (first|assumption|exact Below.refl _ _|refine keep_drew ?_|refine keep_alloc ?_ _|refine keep_trans ?_ (by assumption)))))));refine ⟨?_,?_⟩;focus (exact ⟨_,below_over (by repeat (first|assumption|exact Below.refl _ _|refine keep_drew ?_|refine keep_alloc ?_ _|refine keep_set ?_ (by first|omega|(dsimp only;omega)) _|refine keep_trans ?_ (by assumption)))⟩)))
  all_goals refine wpS_late _ _ _ rfl ?_
  all_goals dsimp only[List.map]
  ·go_wp2_with fail
   refine NoPanic.normal ?_
   go_wp2_with fail
   go_meet
   exact ⟨a5,c5,w5.heap.size,rfl,World.alloc_heap_new _ _,HOS.out.alloc _,HB5.out.alloc HB5.out.size _,HB5.out.size⟩
  ·have hZ:=keepq hb5 (World.alloc_heap_new w2 (.cells #[.int .i64 0,.int .i64 0,.slice none 0 0] 31))
   have NZ:=hZ
   obtain ⟨z0,z1,z2,zl⟩:=c3_of NZ
   obtain ⟨zf0,zf1,zf2⟩:=f3_of NZ
   have HW:=Lib.hid (HB5.out)
   have HOW:=Lib.hid (HOS.out)
   have HNE:Hid (Value.ownBlock (.slice a5 m c5)≠some (w2.heap.size)):=own_apart hos5 (alloc_lt _ _)
   have HGE:Hid (W0.heap.size≤w2.heap.size):=by first|exact Nat.le_refl _|exact Below.size (B:=W0.heap.size) (by (repeat (first|assumption|exact Below.refl _ _|refine keep_drew ?_|refine keep_alloc ?_ _|refine keep_trans ?_ (by assumption))))
   go_wp2_with fail
   refine NoPanic.normal ?_
   go_wp2_with fail
   go_meet
   refine ⟨a5,c5,w2.heap.size,rfl,st3_q NZ,st3_own HOW.out HNE.out,st3_below HW.out HGE.out,HGE.out⟩
  ·have hZ:=keepq hb5 (keepq hb2 (World.alloc_heap_new w1 (.cells #[.int .i64 0,.int .i64 0,.slice none 0 0] 31)))
   have NZ:=hZ
   obtain ⟨z0,z1,z2,zl⟩:=c3_of NZ
   obtain ⟨zf0,zf1,zf2⟩:=f3_of NZ
   have HW:=Lib.hid (HB5.out)
   have HOW:=Lib.hid (HOS.out)
   have HNE:Hid (Value.ownBlock (.slice a5 m c5)≠some (w1.heap.size)):=own_apart hos5 (Nat.lt_of_lt_of_le (alloc_lt _ _) hb2.size)
   have HGE:Hid (W0.heap.size≤w1.heap.size):=by first|exact Nat.le_refl _|exact Below.size (B:=W0.heap.size) (by (repeat (first|assumption|exact Below.refl _ _|refine keep_drew ?_|refine keep_alloc ?_ _|refine keep_trans ?_ (by assumption))))
   go_wp2_with fail
   refine NoPanic.normal ?_
   go_wp2_with fail
   go_meet
   refine ⟨a5,c5,w1.heap.size,rfl,st3_q NZ,st3_own HOW.out HNE.out,st3_below HW.out HGE.out,HGE.out⟩
  ·have hZ:w5.heap[W0.heap.size]?=some (.cells #[.int .i64 0,.int .i64 0,.slice none 0 0] 31 (0,0)):=keepq hb5 (keepq hb2 (keepq hb1 (World.alloc_heap_new W0.drew (.cells #[.int .i64 0,.int .i64 0,.slice none 0 0] 31))))
   have NZ:=hZ
   obtain ⟨z0,z1,z2,zl⟩:=c3_of NZ
   obtain ⟨zf0,zf1,zf2⟩:=f3_of NZ
   have HW:=Lib.hid (HB5.out)
   have HOW:=Lib.hid (HOS.out)
   have HNE:Hid (Value.ownBlock (.slice a5 m c5)≠some (W0.heap.size)):=own_apart hos5 (Nat.lt_of_lt_of_le (alloc_lt _ _) (Nat.le_trans hb1.size hb2.size))
   have HGE:Hid (W0.heap.size≤W0.heap.size):=by first|exact Nat.le_refl _|exact Below.size (B:=W0.heap.size) (by (repeat (first|assumption|exact Below.refl _ _|refine keep_drew ?_|refine keep_alloc ?_ _|refine keep_trans ?_ (by assumption))))
   go_wp2_with fail
   refine NoPanic.normal ?_
   go_wp2_with fail
   go_meet
   refine ⟨a5,c5,W0.heap.size,rfl,st3_q NZ,st3_own HOW.out HNE.out,st3_below HW.out HGE.out,HGE.out⟩
 case rest =>
  obtain ⟨a5,c5,b9,rfl,hI⟩:=hcut
  clear x0 x1 x2 xl
  obtain ⟨q9,hown,hbc,hb9⟩:=hI.out
  have HIC:=Lib.hid (IC.own hown hbl (by omega))
  have HAT:=Lib.hid (fun (k:Nat) (hk:k<n) W (hb:Below wc.heap.size wc W)=>show Calls Try.prog 55 #[.agg #[.int .i64 (n:Int),.int .i64 (n:Int),.slice a5 m c5],.int .i64 (k:Int),.int .i64 0] W (fun e w'=>e = .returned (.int .i64 (by1[k*n]?.getD 0))∧Below W.heap.size W w') from lat_c (n:Int) n k 0 a5 m c5 by1 W (HIC.out.1.mono hb) (by omega) (by omega) (by omega) (by rw[HMQ.out];exact gcell_lt hk hn1))
  have HSZ:Hid (W0.heap.size≤wc.heap.size):=hbc.size
  have hbcw:Hid (Below w.heap.size w wc):=keep_trans fB hbc
  have Q9:=Lib.hid q9
  have Q1':=Lib.hid (keepq hbc Q1.out)
  clear hown q9 hb9 hbc
  go_wp2_with fail
  go_loopw [5,6,20] (fun v _ s wr=>∃k:Nat,k≤n∧s = .int .i64 k∧wr.ownsRow wc.heap.size 3 1 v k ((colTo n by1 k).map (Value.int .i64))∧Below wc.heap.size wc wr) (fun _ _ s _=>n - (intOf s).toNat)
  case atStart=>exact ⟨0,by omega,rfl,World.ownsRow_nil _ _ _ _,Below.refl _ _⟩
  case round =>
   obtain ⟨k,hk,rfl,hown,hbr⟩:=hrel
   have hsz:=hbr.size
   obtain ⟨av,cv,rfl⟩:=owns_shape hown
   have HO:=Lib.hid hown
   clear hown
   obtain ⟨x0,x1,x2,xl⟩:=c3_of (keepq hbr Q9.out)
   by_cases hlt:k<n
   ·have HSU:=Lib.hid (colTo_succ n by1 k)
    have HA:=Lib.hid (HAT.out k hlt wr hbr)
    obtain ⟨x,hx⟩:∃x,x=by1[k*n]?.getD 0:=⟨_,rfl⟩
    rw[← hx] at HA HSU
    clear hx
    go_wp2_with (first|(go_at_call 55;refine HA.out.mono ?_;rintro _ w1 ⟨rfl,hb1⟩;have HO1:=Lib.hid (owns_keep HO.out (fun k e hl=>hb1.block k hl));have hs1:=hb1.size)|(at_builtin;refine wpList_append_any _ rfl _ _ 29 rfl wc.heap.size 3 i0 (.int .i64 0) 8 Try.underlying29 hi hz0 hz1 hz2 rfl _ _ _ rfl (HO1.out.alloc _) (by simp only[World.size_alloc];omega) _ _ _ [.int .i64 x] rfl rfl (.inl ⟨_,rfl,cell_one_new _ _ _⟩) (by simp[Value.oneCell']) (by unfold maxLen;omega) (by omega) ?_;intro v7 w7 hown7 hst7 hk7;have hbw:=hst7.below' (by simp only[World.size_alloc];omega) ((keep_trans hbr hb1).alloc (by omega) _) (fun k e=>(HO1.out.lt k e).1)))
    go_roundw
    case rel=>exact ⟨k+1,by omega,by go_num,by rw[HSU.out,List.map_append];exact hown7,hbw⟩
    case measure=>simp[intOf];omega
   ·have e:k=n:=by omega
    subst e
    have HCL:=Lib.hid (IC.own HO.out (colTo_len k by1 k) (by omega))
    have HI2:=Lib.hid (fun W (hw:Below wr.heap.size wr W) (ar:Option Addr) (cr:Nat) (a9:Option Addr) (c9:Nat) (h1:IC W ar k (sameL k)) (h2:IC W a9 k (sameL k))=>isotope_c k a5 m c5 by1 av cv (colTo k by1 k) ar cr (sameL k) a9 c9 (sameL k) W (HIC.out.1.mono (keep_trans hbr hw)) SB (HCL.out.1.mono hw) ⟨colTo_len k by1 k,fun x hx=>HCZ.out.num x hx⟩ h1 (sameL_num k) h2 (sameL_num k))
    have hlen2:(isoL (-1) k (colTo k by1 k) (sameL k) (sameL k) by1).length=m:=by rw[iso_len,HMQ.out]
    have HEQ:Hid (isoL (-1) k (colZ k by1) (sameL k) (sameL k) by1=isoL (-1) k (colTo k by1 k) (sameL k) (sameL k) by1):=rfl
    have P1:=Lib.hid (keepq hbr Q1'.out)
    have hbw:=keep_trans hbcw.out hbr
    go_wp2_with fail
    refine wp_region_S (fun w'=>∃u,w'=over (wr) u) [7,6] [(0,0),(0,1),(0,2),(0,4),(1,3),(1,5),(2,6),(2,7)] (by kernel_rfl) (by kernel_rfl) (by exact ⟨_,below_over (by repeat (first|assumption|exact Below.refl _ _|refine keep_drew ?_|refine keep_alloc ?_ _|refine keep_trans ?_ (by assumption)))⟩) ?_
    dsimp only[pickOps,nthOp]
    repeat (first|(refine wpS_skip rfl (fun K hK=>?_);go_big_quiet_op;refine hK _ ?_;clear hK K)|(refine wpS_quiet rfl rfl (fun K hK=>?_);go_big_quiet_op;refine hK _ ?_;clear hK K)|(refine wpS_loud ?_;go_wp2_with (first|(go_at_call 78;have hX:=hb1;clear hX;refine (HSM.out _).mono ?_;rintro _ w2 ⟨as2,cs2,rfl,hos2,hb2⟩)|(go_at_call 78;refine (HSM.out _).mono ?_;rintro _ w1 ⟨as1,cs1,rfl,hos1,hb1⟩)|(go_at_call 77;refine (HI2.out _ (by (repeat (first|assumption|exact Below.refl _ _|refine keep_drew ?_|refine keep_alloc ?_ _|refine keep_trans ?_ (by assumption)))) _ _ _ _ ((IC.own hos1 (sameL_len k) (by omega)).1.mono (by (repeat (first|assumption|exact Below.refl _ _|refine keep_drew ?_|refine keep_alloc ?_ _|refine keep_trans ?_ (by assumption))))) ((IC.own hos2 (sameL_len k) (by omega)).1.mono (by (repeat (first|assumption|exact Below.refl _ _|refine keep_drew ?_|refine keep_alloc ?_ _|refine keep_trans ?_ (by assumption)))))).mono ?_;rintro _ w5 ⟨a9,c9,rfl,hos5,hb5⟩;rw[hlen2] at hos5;rw[hlen2];have HB5:Hid (Below wr.heap.size wr w5):=(by unfold Hid;(repeat (first|assumption|exact Below.refl _ _|refine keep_drew ?_|refine keep_alloc ?_ _|refine keep_trans ?_ (by assumption))));have NZ:=keepq HB5.out P1.out;obtain ⟨z0,z1,z2,zl⟩:=c3_of NZ;obtain ⟨zf0,zf1,zf2⟩:=f3_of NZ));refine ⟨?_,?_⟩;focus (exact ⟨_,below_over (by repeat (first|assumption|exact Below.refl _ _|refine keep_drew ?_|refine keep_alloc ?_ _|refine keep_trans ?_ (by assumption)))⟩)))
    refine wpS_late _ _ _ rfl ?_
    dsimp only[List.map]
    go_wp2_with (first|(go_at_call 78;have hX:=hb1;clear hX;refine (HSM.out _).mono ?_;rintro _ w2 ⟨as2,cs2,rfl,hos2,hb2⟩)|(go_at_call 78;refine (HSM.out _).mono ?_;rintro _ w1 ⟨as1,cs1,rfl,hos1,hb1⟩)|(go_at_call 77;refine (HI2.out _ (by (repeat (first|assumption|exact Below.refl _ _|refine keep_drew ?_|refine keep_alloc ?_ _|refine keep_trans ?_ (by assumption)))) _ _ _ _ ((IC.own hos1 (sameL_len k) (by omega)).1.mono (by (repeat (first|assumption|exact Below.refl _ _|refine keep_drew ?_|refine keep_alloc ?_ _|refine keep_trans ?_ (by assumption))))) ((IC.own hos2 (sameL_len k) (by omega)).1.mono (by (repeat (first|assumption|exact Below.refl _ _|refine keep_drew ?_|refine keep_alloc ?_ _|refine keep_trans ?_ (by assumption)))))).mono ?_;rintro _ w5 ⟨a9,c9,rfl,hos5,hb5⟩;rw[hlen2] at hos5;rw[hlen2];have HB5:Hid (Below wr.heap.size wr w5):=(by unfold Hid;(repeat (first|assumption|exact Below.refl _ _|refine keep_drew ?_|refine keep_alloc ?_ _|refine keep_trans ?_ (by assumption))));have NZ:=keepq HB5.out P1.out;obtain ⟨z0,z1,z2,zl⟩:=c3_of NZ;obtain ⟨zf0,zf1,zf2⟩:=f3_of NZ))
    refine NoPanic.normal ?_
    have hz5:wr.heap.size≤w2.heap.size:=Nat.le_trans hb1.size hb2.size
    have g3:=st3_q (x0 := .int .i64 (k:Int)) (x1 := .int .i64 (k:Int)) (x2 := .slice a9 m c9) NZ
    have hown3:=st3_own (x0 := .int .i64 (k:Int)) (x1 := .int .i64 (k:Int)) (x2 := .slice a9 m c9) hos5 (own_apart hos5 (b:=w.heap.size+1) (Nat.lt_of_lt_of_le (q_lt P1.out) hz5))
    have hb3:=st3_below (x0 := .int .i64 (k:Int)) (x1 := .int .i64 (k:Int)) (x2 := .slice a9 m c9) (b:=w.heap.size+1) (keep_trans hbw HB5.out) (Nat.le_succ _)
    have hge:=hbw.size
    clear z0 z1 z2 zl zf0 zf1 zf2
    obtain ⟨z0,z1,z2,zl⟩:=c3_of g3
    go_wp2_with fail
    refine bodyPost_ret (v := .agg #[.int .i64 (k:Int),.int .i64 (k:Int),.slice a9 m c9]) ?_ rfl ⟨a9,c9,by rw[HEQ.out,hlen2],by rw[HEQ.out,hlen2];exact owns_base hown3 (Nat.le_trans hge hz5),hb3⟩
    simp[results,Try.f51,go_sem,z0,z1,z2]
-- a zero grid and an error come back;the result's box is bR
-- the arm of a call that makes a grid: its box holds zeros
end
end Go.Proofs.Ytpkghjoippcjeaa
