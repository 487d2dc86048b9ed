/- Texts J29 to J13 of this proof, in one file. -/
import Derived.Test.YtpkghjoippcjeaaW02
import Derived.Test.YtpkghjoippcjeaaW04
namespace Go.Proofs.Ytpkghjoippcjeaa
set_option maxRecDepth 100000
set_option maxHeartbeats 16000000
section
open Go Go.RowKit Go.Maps
attribute [local go_sem] over_cell
attribute [local go_sem] Oper.semAt_some
def seenP (cs ds:List Int) (k:Nat) (x y:Int):Option Int:=((List.range k).find? fun c=>cs[c]?.getD 0==x&&ds[c]?.getD 0==y).map fun c=>(c:Int)
theorem seenP_at (cs ds:List Int) (k:Nat):seenP cs ds k (cs[k]?.getD 0) (ds[k]?.getD 0)=(meetAt cs ds k).map fun c=>(c:Int):=by
 unfold seenP meetAt pairEq;rfl
theorem seenP_succ {cs ds:List Int} {k:Nat} (h:meetAt cs ds k=none) (x y:Int):seenP cs ds (k+1) x y=if x=cs[k]?.getD 0∧y=ds[k]?.getD 0 then some (k:Int) else seenP cs ds k x y:=by
 unfold seenP
 rw[List.range_succ,List.find?_append]
 by_cases e:x=cs[k]?.getD 0∧y=ds[k]?.getD 0
 ·rw[if_pos e,e.1,e.2]
  have h2:(List.range k).find? (fun c=>cs[c]?.getD 0==cs[k]?.getD 0&&ds[c]?.getD 0==ds[k]?.getD 0)=none:=h
  rw[h2]
  simp
 ·rw[if_neg e]
  cases hf:(List.range k).find? (fun c=>cs[c]?.getD 0==x&&ds[c]?.getD 0==y) with
  | some c=>rfl
  | none =>
   have:(cs[k]?.getD 0==x&&ds[k]?.getD 0==y)=false:=by
    rw[Bool.eq_false_iff]
    intro h3
    rw[Bool.and_eq_true,beq_iff_eq,beq_iff_eq] at h3
    exact e ⟨h3.1.symm,h3.2.symm⟩
   simp[this]
def MeetV (cs ds:List Int):Value:=match meetR cs ds with
 | some (c,d) => .tuple #[.int .i64 (c:Int),.int .i64 (d:Int),.bool true]
 | none => .tuple #[.int .i64 0,.int .i64 0,.bool false]
def NoMeet (cs ds:List Int) (k:Nat):Prop:=∀i,i<k→meetAt cs ds i=none
theorem noMeet_next {cs ds:List Int} {k:Nat} (h:NoMeet cs ds k) (h1:meetAt cs ds k=none):NoMeet cs ds (k+1):=fun i hi=>by
 rcases Nat.lt_or_ge i k with e|e
 ·exact h i e
 ·rw[show i=k by omega];exact h1
theorem noMeet_end {cs ds:List Int} (h:NoMeet cs ds cs.length):meetR cs ds=none:=by
 unfold meetR
 rw[List.findSome?_eq_none_iff]
 intro i hi
 rw[h i (List.mem_range.1 hi)];rfl
theorem meet_found {cs ds:List Int} {k c:Nat} (hk:k<cs.length) (h:NoMeet cs ds k) (h1:meetAt cs ds k=some c):meetR cs ds=some (c,k):=by
 unfold meetR
 exact findSome_first hk (fun i hi=>by rw[h i hi];rfl) (by rw[h1];rfl)
structure Num16 (cs:List Int):Prop where
 num:∀k:Nat,0≤cs[k]?.getD 0∧cs[k]?.getD 0≤1000
theorem Sq.num16 {n:Nat} {cs:List Int} (S:Sq n cs):Num16 cs:=⟨fun k=>by have:=S.num k;have:=S.n2;omega⟩
theorem meet_c (r1 C1 r2 C2:Int) (a:Option Addr) (n c:Nat) (cs:List Int) (a2:Option Addr) (n2 c2:Nat) (ds:List Int) (w:World) (h:IC w a n cs) (h2:IC w a2 n2 ds) (hn:n≤n2) (hn2:n≤65536) (N1:Num16 cs) (N2:Num16 ds) :
  Calls Try.prog 29 #[.agg #[.int .i64 r1,.int .i64 C1,.slice a n c],.agg #[.int .i64 r2,.int .i64 C2,.slice a2 n2 c2]] w fun e w'=>e = .returned (MeetV cs ds)∧Below w.heap.size w w':=by
 have hm:=h.small
 have HL:=Lib.hid h.len
 go_enter Try.func29,Try.ntmps29
 go_upto_region 1 with fail
 have fsz:((w.alloc (.cells #[.int .i64 r1,.int .i64 C1,.slice a n c] 31)).alloc (.cells #[.int .i64 r2,.int .i64 C2,.slice a2 n2 c2] 31)).heap.size=w.heap.size+2:=by simp only[World.size_alloc] <;> omega
 have fB:Below w.heap.size w ((w.alloc (.cells #[.int .i64 r1,.int .i64 C1,.slice a n c] 31)).alloc (.cells #[.int .i64 r2,.int .i64 C2,.slice a2 n2 c2] 31)):=((Below.refl _ _).alloc (Nat.le_refl _) _).alloc (by simp only[World.size_alloc];omega) _
 have fq0:((w.alloc (.cells #[.int .i64 r1,.int .i64 C1,.slice a n c] 31)).alloc (.cells #[.int .i64 r2,.int .i64 C2,.slice a2 n2 c2] 31)).heap[w.heap.size]?=some (.cells #[.int .i64 r1,.int .i64 C1,.slice a n c] 31 (0,0)):=by have h:=World.alloc_heap_new w (.cells #[.int .i64 r1,.int .i64 C1,.slice a n c] 31);exact (Below.heap_alloc _ _ _ (by simp only[World.size_alloc];omega)).trans (h)
 have fq1:((w.alloc (.cells #[.int .i64 r1,.int .i64 C1,.slice a n c] 31)).alloc (.cells #[.int .i64 r2,.int .i64 C2,.slice a2 n2 c2] 31)).heap[w.heap.size+1]?=some (.cells #[.int .i64 r2,.int .i64 C2,.slice a2 n2 c2] 31 (0,0)):=by have h:=World.alloc_heap_new (w.alloc (.cells #[.int .i64 r1,.int .i64 C1,.slice a n c] 31)) (.cells #[.int .i64 r2,.int .i64 C2,.slice a2 n2 c2] 31);simp only[World.size_alloc] at h;exact h
 generalize ((w.alloc (.cells #[.int .i64 r1,.int .i64 C1,.slice a n c] 31)).alloc (.cells #[.int .i64 r2,.int .i64 C2,.slice a2 n2 c2] 31))=W0 at fsz fB fq0 fq1 ⊢
 have h0:=Lib.hid (h.mono fB)
 have h02:=Lib.hid (h2.mono fB)
 clear h h2
 obtain ⟨x0,x1,x2,xl⟩:=c3_of fq0
 have Q0:=Lib.hid fq0
 have Q1:=Lib.hid fq1
 clear fq0 fq1 fsz
 have hmm:=@run_makeMap Try.prog
 go_upto_region 2 with fail
 clear hmm
 have hM1:MapI (W0.alloc (.map #[] 0)) Try.prog 22 3 kapP W0.heap.size 0 (fun p=>seenP cs ds 0 p.1.1 p.1.2):=MapI.made
 have hB1:Below W0.heap.size W0 (W0.alloc (.map #[] 0)):=(Below.refl _ _).alloc (Nat.le_refl _) _
 obtain ⟨x0,x1,x2,xl⟩:=c3_of (keepq hB1 Q0.out)
 generalize (W0.alloc (.map #[] 0))=W1 at hM1 hB1 x0 x1 x2 xl ⊢
 obtain ⟨mb,hmb⟩:∃mb,mb=W0.heap.size:=⟨_,rfl⟩
 have HMB:=Lib.hid hmb
 rw[← hmb] at hM1 ⊢
 clear hmb
 go_wp2_with fail
 go_loopw [8,9,10,11,12,17] (fun _ _ _ _ _ s wr=>∃k:Nat,k≤n∧s = .int .i64 k∧Hid (NoMeet cs ds k)∧Hid (MapI wr Try.prog 22 3 kapP mb k (fun p=>seenP cs ds k p.1.1 p.1.2))∧Below W0.heap.size W0 wr) (fun _ _ _ _ _ s _=>n - (intOf s).toNat)
 case atStart=>exact ⟨0,by omega,rfl,fun i hi=>absurd hi (by omega),hM1,hB1⟩
 case round =>
  obtain ⟨k,hk,rfl,hnm,hM,hbr⟩:=hrel
  clear x0 x1 x2 xl
  by_cases hlt:k<n
  ·obtain ⟨b,off,rfl,hb,hc⟩:=(h0.out.mono hbr).2 k hlt
   obtain ⟨bb,off2,rfl,hb2,hc2⟩:=(h02.out.mono hbr).2 k (by omega)
   have hki:(k:Int)<(n:Int):=by omega
   have hki2:(k:Int)<(n2:Int):=by omega
   have hx:=N1.num k
   have hy:=N2.num k
   have HAT:=Lib.hid (seenP_at cs ds k)
   have HSU:=Lib.hid (fun e=>seenP_succ (cs:=cs) (ds:=ds) (k:=k) e)
   obtain ⟨x,hxe⟩:∃x,x=cs[k]?.getD 0:=⟨_,rfl⟩
   obtain ⟨y,hye⟩:∃y,y=ds[k]?.getD 0:=⟨_,rfl⟩
   rw[← hxe] at hx hc
   rw[← hye] at hy hc2
   rw[← hxe,← hye] at HAT HSU
   clear hxe hye
   obtain ⟨p,hp⟩:∃p:Pr,p=⟨(x,y),wf64 (by omega) (by omega),wf64 (by omega) (by omega)⟩:=⟨_,rfl⟩
   have HKY:Hid (keyOf Try.prog 22 (.agg #[.int .i64 x,.int .i64 y])=some (kapP p)):=by unfold Hid;rw[hp];exact keyP ⟨(x,y),wf64 (by omega) (by omega),wf64 (by omega) (by omega)⟩
   have HPX:Hid (p.1.1=x∧p.1.2=y):=by rw[hp];exact ⟨rfl,rfl⟩
   have HPE:Hid (∀z:Pr,z=p↔z.1.1=x∧z.1.2=y):=fun z=>by
    rw[hp]
    exact ⟨fun e=>by rw[e];exact ⟨rfl,rfl⟩,fun e=>Subtype.ext (Prod.ext e.1 e.2)⟩
   clear hp
   have y0:wr.cell? ⟨w.heap.size+1,2,none⟩=some (.slice (some ⟨bb,off2,none⟩) n2 c2):=q_cell (keepq hbr Q1.out) 2
   have yl:=q_lt (keepq hbr Q1.out)
   have hFND:=Lib.hid (fun c e=>meet_found (cs:=cs) (ds:=ds) (k:=k) (c:=c) (by rw[HL.out];exact hlt) hnm.out e)
   have hNXT:=Lib.hid (fun e=>noMeet_next hnm.out e)
   have hmbr:mb<wr.heap.size:=hM.out.lt
   go_upto_region 6 with fail
   have hB5:Below wr.heap.size wr (wr.alloc (.cells #[.int .i64 x,.int .i64 y] 22)):=(Below.refl _ _).alloc (Nat.le_refl _) _
   have hq5:(wr.alloc (.cells #[.int .i64 x,.int .i64 y] 22)).heap[wr.heap.size]?=some (.cells #[.int .i64 x,.int .i64 y] 22 (0,0)):=World.alloc_heap_new _ _
   generalize (wr.alloc (.cells #[.int .i64 x,.int .i64 y] 22))=W5 at hB5 hq5 ⊢
   obtain ⟨g,hg⟩:∃g:Pr→Option Int,g=fun p=>seenP cs ds k p.1.1 p.1.2:=⟨_,rfl⟩
   have HM5:=Lib.hid (hM.out.mono hB5 hmbr)
   rw[← hg] at HM5
   have HGP:Hid (g p=(meetAt cs ds k).map fun c=>(c:Int)):=by unfold Hid;rw[hg];dsimp only;rw[HPX.out.1,HPX.out.2];exact HAT.out
   have HG:=Lib.hid hg
   clear hg y0 yl
   obtain ⟨z0,z1,zl⟩:W5.cell? ⟨wr.heap.size,0,none⟩=some (.int .i64 x)∧W5.cell? ⟨wr.heap.size,1,none⟩=some (.int .i64 y)∧wr.heap.size<W5.heap.size:=⟨q_cell hq5 0,q_cell hq5 1,q_lt hq5⟩
   clear hq5
   have hB05:=keep_trans hbr hB5
   cases hma:meetAt cs ds k with
   | some c9 =>
    rw[hma] at HGP
    have HE:Hid (MeetV cs ds = .tuple #[.int .i64 (c9:Int),.int .i64 (k:Int),.bool true]):=by unfold Hid MeetV;rw[hFND.out c9 hma]
    clear hma
    go_wp2_with (first|(refine wpList_lookI _ rfl _ _ 87 rfl 22 3 pairKeyed Try.underlying87 Try.underlying3 (zeroInt _) kapP mb k g rfl HM5.out _ p rfl HKY.out ?_;rw[HGP.out];dsimp only[Option.map,Option.getD,Option.isSome]))
    go_ret3
    exact ⟨by rw[HE.out];rfl,fB.trans (hB05.mono fB.size)⟩
   | none =>
    rw[hma] at HGP
    have HS2:=Lib.hid (HSU.out hma)
    have HN2:=Lib.hid (hNXT.out hma)
    clear hma
    go_wp2_with (first|(refine wpList_lookI _ rfl _ _ 87 rfl 22 3 pairKeyed Try.underlying87 Try.underlying3 (zeroInt _) kapP mb k g rfl HM5.out _ p rfl HKY.out ?_;rw[HGP.out];dsimp only[Option.map,Option.getD,Option.isSome])|(refine wpList_putI _ rfl _ _ _ 87 rfl 22 3 pairKeyed Try.underlying87 Try.underlying3 kapP injP mb k g rfl HM5.out (by unfold maxLen;omega) _ p (k:Int) rfl rfl HKY.out (wf64 (by omega) (by omega)) ?_;intro W6 hM6 hgr6))
    go_roundw
    case rel =>
     refine ⟨k+1,by omega,by go_num,HN2.out,?_,hB05.grown hgr6 hB05.size (fun j e=>by cases e;have:=HMB.out;omega)⟩
     have hgg:(fun z:Pr=>if z=p then some (k:Int) else g z)=fun z:Pr=>seenP cs ds (k+1) z.1.1 z.1.2:=by
      funext z
      rw[HS2.out,HG.out]
      by_cases e:z=p
      ·rw[if_pos e,if_pos ((HPE.out z).1 e)]
      ·rw[if_neg e,if_neg (fun e2=>e ((HPE.out z).2 e2))]
     rw[← hgg];exact hM6
    case measure=>simp[intOf];omega
  ·have e:k=n:=by omega
   subst e
   have HE:Hid (MeetV cs ds = .tuple #[.int .i64 0,.int .i64 0,.bool false]):=by unfold Hid MeetV;rw[noMeet_end (by rw[HL.out];exact hnm.out)]
   go_wp2_with fail
   go_ret3
   exact ⟨by rw[HE.out];rfl,fB.trans (hbr.mono fB.size)⟩
def twoE (r1 C1:Int) (cs:List Int) (r2 C2:Int) (ds:List Int):Int:=firstL [sqE 0 r1 C1 cs,sqE 0 r2 C2 ds,whenV (r1 != r2) 2]
theorem two_c (r1 C1 r2 C2:Int) (a:Option Addr) (n c:Nat) (cs:List Int) (a2:Option Addr) (n2 c2:Nat) (ds:List Int) (w:World) (h:IC w a n cs) (h2:IC w a2 n2 ds) :
  Calls Try.prog 28 #[.agg #[.int .i64 r1,.int .i64 C1,.slice a n c],.agg #[.int .i64 r2,.int .i64 C2,.slice a2 n2 c2]] w fun e w'=>e = .returned (.int .i64 (twoE r1 C1 cs r2 C2 ds))∧Below w.heap.size w w':=by
 have HC1:=Lib.hid (fun W (hb:Below w.heap.size w W)=>latcheck_c r1 C1 a n c cs W (h.mono hb))
 have HC2:=Lib.hid (fun W (hb:Below w.heap.size w W)=>latcheck_c r2 C2 a2 n2 c2 ds W (h2.mono hb))
 have HE:Hid (twoE r1 C1 cs r2 C2 ds=firstL [sqE 0 r1 C1 cs,sqE 0 r2 C2 ds,whenV (r1 != r2) 2]):=rfl
 clear h h2
 generalize sqE 0 r1 C1 cs=v1 at HC1 HE
 generalize sqE 0 r2 C2 ds=v2 at HC2 HE
 generalize twoE r1 C1 cs r2 C2 ds=er at HE ⊢
 go_enter Try.func28,Try.ntmps28
 go_upto_region 1 with fail
 have fsz:((w.alloc (.cells #[.int .i64 r1,.int .i64 C1,.slice a n c] 31)).alloc (.cells #[.int .i64 r2,.int .i64 C2,.slice a2 n2 c2] 31)).heap.size=w.heap.size+2:=by simp only[World.size_alloc] <;> omega
 have fB:Below w.heap.size w ((w.alloc (.cells #[.int .i64 r1,.int .i64 C1,.slice a n c] 31)).alloc (.cells #[.int .i64 r2,.int .i64 C2,.slice a2 n2 c2] 31)):=((Below.refl _ _).alloc (Nat.le_refl _) _).alloc (by simp only[World.size_alloc];omega) _
 have fq0:((w.alloc (.cells #[.int .i64 r1,.int .i64 C1,.slice a n c] 31)).alloc (.cells #[.int .i64 r2,.int .i64 C2,.slice a2 n2 c2] 31)).heap[w.heap.size]?=some (.cells #[.int .i64 r1,.int .i64 C1,.slice a n c] 31 (0,0)):=by have h:=World.alloc_heap_new w (.cells #[.int .i64 r1,.int .i64 C1,.slice a n c] 31);exact (Below.heap_alloc _ _ _ (by simp only[World.size_alloc];omega)).trans (h)
 have fq1:((w.alloc (.cells #[.int .i64 r1,.int .i64 C1,.slice a n c] 31)).alloc (.cells #[.int .i64 r2,.int .i64 C2,.slice a2 n2 c2] 31)).heap[w.heap.size+1]?=some (.cells #[.int .i64 r2,.int .i64 C2,.slice a2 n2 c2] 31 (0,0)):=by have h:=World.alloc_heap_new (w.alloc (.cells #[.int .i64 r1,.int .i64 C1,.slice a n c] 31)) (.cells #[.int .i64 r2,.int .i64 C2,.slice a2 n2 c2] 31);simp only[World.size_alloc] at h;exact h
 generalize ((w.alloc (.cells #[.int .i64 r1,.int .i64 C1,.slice a n c] 31)).alloc (.cells #[.int .i64 r2,.int .i64 C2,.slice a2 n2 c2] 31))=W0 at fsz fB fq0 fq1 ⊢
 obtain ⟨x0,x1,x2,xl⟩:=c3_of fq0
 obtain ⟨y0,y1,y2,yl⟩:=c3_of fq1
 clear fsz fq0 fq1
 refine wp_region_S (fun w'=>∃u,w'=over (W0) u) [12,11,10,9] [(0,0),(0,2),(0,4),(0,5),(0,6),(0,7),(0,8),(1,1),(1,3),(2,9),(2,10),(2,11),(2,12)] (by kernel_rfl) (by kernel_rfl) (by exact ⟨_,below_over (by repeat (first|assumption|exact Below.refl _ _|refine keep_drew ?_|refine keep_alloc ?_ _|refine keep_trans ?_ (by assumption)))⟩) ?_
 dsimp only[pickOps,nthOp]
 repeat (first|(refine wpS_skip rfl (fun K hK=>?_);go_big_quiet_op;refine hK _ ?_;clear hK K)|(refine wpS_quiet rfl rfl (fun K hK=>?_);go_big_quiet_op;refine hK _ ?_;clear hK K)|(refine wpS_loud ?_;go_wp2_with (first|(go_at_call 10;refine (HC1.out _ (keep_trans fB (keep_drew (Below.refl _ _)))).mono ?_;rintro _ w1 ⟨rfl,hb1⟩)|(go_at_call 10;refine (HC2.out _ (keep_trans fB (keep_trans (keep_drew (Below.refl _ _)) hb1))).mono ?_;rintro _ w2 ⟨rfl,hb2⟩)|(go_at_call 48;refine (twhen_c _ _ _).mono ?_;rintro _ w3 ⟨rfl,rfl⟩)|(go_at_call 47;refine (tfirst_c _ _ _ _ _ (IC.new3 _ _ _ _ _)).mono ?_;rintro _ w4 ⟨rfl,rfl⟩));refine ⟨?_,?_⟩;focus (exact ⟨_,below_over (by repeat (first|assumption|exact Below.refl _ _|refine keep_drew ?_|refine keep_alloc ?_ _|refine keep_trans ?_ (by assumption)))⟩)))
 refine wpS_late _ _ _ rfl ?_
 dsimp only[List.map]
 go_wp2_with (first|(go_at_call 10;refine (HC1.out _ (keep_trans fB (keep_drew (Below.refl _ _)))).mono ?_;rintro _ w1 ⟨rfl,hb1⟩)|(go_at_call 10;refine (HC2.out _ (keep_trans fB (keep_trans (keep_drew (Below.refl _ _)) hb1))).mono ?_;rintro _ w2 ⟨rfl,hb2⟩)|(go_at_call 48;refine (twhen_c _ _ _).mono ?_;rintro _ w3 ⟨rfl,rfl⟩)|(go_at_call 47;refine (tfirst_c _ _ _ _ _ (IC.new3 _ _ _ _ _)).mono ?_;rintro _ w4 ⟨rfl,rfl⟩))
 refine NoPanic.normal ?_
 go_wp2_with fail
 go_ret
 exact ⟨ret_int HE.out.symm,keep_alloc (keep_trans (keep_trans fB (keep_trans (keep_drew (Below.refl _ _)) hb1)) hb2) _⟩
def orthV (r1 C1:Int) (cs:List Int) (r2 C2:Int) (ds:List Int):Value :=
 if twoE r1 C1 cs r2 C2 ds=0 then .tuple #[.bool (meetR cs ds).isNone,.int .i64 0] else .tuple #[.bool false,.int .i64 (twoE r1 C1 cs r2 C2 ds)]
theorem firstL_cons0 {x:Int} {l:List Int} (h:firstL (x :: l)=0):x=0∧firstL l=0:=by
 unfold firstL at h
 split at h
 ·rename_i hx
  exact ⟨h,by first|(exact absurd h (by simpa using hx))|(simp_all)⟩
 ·rename_i hx
  exact ⟨by simpa using hx,h⟩
theorem twoE_ok {r1 C1 r2 C2:Int} {cs ds:List Int} (h:twoE r1 C1 cs r2 C2 ds=0):∃n:Nat,r1=(n:Int)∧C1=(n:Int)∧r2=(n:Int)∧C2=(n:Int)∧Latin n cs∧Latin n ds:=by
 unfold twoE at h
 obtain ⟨h1,h⟩:=firstL_cons0 h
 obtain ⟨h2,h⟩:=firstL_cons0 h
 obtain ⟨h3,_⟩:=firstL_cons0 h
 obtain ⟨n,rfl,rfl,L⟩:=sqE_ok h1
 obtain ⟨m,rfl,rfl,M⟩:=sqE_ok h2
 unfold whenV at h3
 split at h3
 ·exact absurd h3 (by decide)
 ·rename_i hx
  have e:(n:Int)=(m:Int):=by simpa using hx
  have e2:n=m:=Int.ofNat.inj e
  subst e2
  exact ⟨n,rfl,rfl,rfl,rfl,L,M⟩
theorem orth_c (r1 C1 r2 C2:Int) (a:Option Addr) (n c:Nat) (cs:List Int) (a2:Option Addr) (n2 c2:Nat) (ds:List Int) (w:World) (h:IC w a n cs) (h2:IC w a2 n2 ds) :
  Calls Try.prog 11 #[.agg #[.int .i64 r1,.int .i64 C1,.slice a n c],.agg #[.int .i64 r2,.int .i64 C2,.slice a2 n2 c2]] w fun e w'=>e = .returned (orthV r1 C1 cs r2 C2 ds)∧Below w.heap.size w w':=by
 have HT:=Lib.hid (fun W (hb:Below w.heap.size w W)=>two_c r1 C1 r2 C2 a n c cs a2 n2 c2 ds W (h.mono hb) (h2.mono hb))
 by_cases h0:twoE r1 C1 cs r2 C2 ds=0
 ·obtain ⟨N,rfl,rfl,rfl,rfl,L,M⟩:=twoE_ok h0
  have HE:Hid (orthV (N:Int) (N:Int) cs (N:Int) (N:Int) ds = .tuple #[.bool (meetR cs ds).isNone,.int .i64 0]):=by unfold Hid orthV;rw[if_pos h0]
  rw[h0] at HT
  have hle:n=N*N:=by rw[← h.len,L.len]
  have hle2:n2=N*N:=by rw[← h2.len,M.len]
  have hn:n≤65536:=by rw[hle];exact Nat.le_trans (Nat.mul_le_mul L.le L.le) (by decide)
  have HM:=Lib.hid (fun W (hb:Below w.heap.size w W)=>meet_c (N:Int) (N:Int) (N:Int) (N:Int) a n c cs a2 n2 c2 ds W (h.mono hb) (h2.mono hb) (by rw[hle,hle2];exact Nat.le_refl _) hn L.sq.num16 M.sq.num16)
  unfold MeetV at HM
  clear h h2 h0 hle hle2 hn
  cases hmr:meetR cs ds with
  | none =>
   rw[hmr] at HM HE
   clear hmr
   go_enter Try.func11,Try.ntmps11
   go_wp2_with fail
   have fsz:((w.alloc (.cells #[.int .i64 (N:Int),.int .i64 (N:Int),.slice a n c] 31)).alloc (.cells #[.int .i64 (N:Int),.int .i64 (N:Int),.slice a2 n2 c2] 31)).heap.size=w.heap.size+2:=by simp only[World.size_alloc] <;> omega
   have fB:Below w.heap.size w ((w.alloc (.cells #[.int .i64 (N:Int),.int .i64 (N:Int),.slice a n c] 31)).alloc (.cells #[.int .i64 (N:Int),.int .i64 (N:Int),.slice a2 n2 c2] 31)):=((Below.refl _ _).alloc (Nat.le_refl _) _).alloc (by simp only[World.size_alloc];omega) _
   have fq0:((w.alloc (.cells #[.int .i64 (N:Int),.int .i64 (N:Int),.slice a n c] 31)).alloc (.cells #[.int .i64 (N:Int),.int .i64 (N:Int),.slice a2 n2 c2] 31)).heap[w.heap.size]?=some (.cells #[.int .i64 (N:Int),.int .i64 (N:Int),.slice a n c] 31 (0,0)):=by have h:=World.alloc_heap_new w (.cells #[.int .i64 (N:Int),.int .i64 (N:Int),.slice a n c] 31);exact (Below.heap_alloc _ _ _ (by simp only[World.size_alloc];omega)).trans (h)
   have fq1:((w.alloc (.cells #[.int .i64 (N:Int),.int .i64 (N:Int),.slice a n c] 31)).alloc (.cells #[.int .i64 (N:Int),.int .i64 (N:Int),.slice a2 n2 c2] 31)).heap[w.heap.size+1]?=some (.cells #[.int .i64 (N:Int),.int .i64 (N:Int),.slice a2 n2 c2] 31 (0,0)):=by have h:=World.alloc_heap_new (w.alloc (.cells #[.int .i64 (N:Int),.int .i64 (N:Int),.slice a n c] 31)) (.cells #[.int .i64 (N:Int),.int .i64 (N:Int),.slice a2 n2 c2] 31);simp only[World.size_alloc] at h;exact h
   generalize ((w.alloc (.cells #[.int .i64 (N:Int),.int .i64 (N:Int),.slice a n c] 31)).alloc (.cells #[.int .i64 (N:Int),.int .i64 (N:Int),.slice a2 n2 c2] 31))=W0 at fsz fB fq0 fq1 ⊢
   obtain ⟨x0,x1,x2,xl⟩:=c3_of fq0
   obtain ⟨y0,y1,y2,yl⟩:=c3_of fq1
   have Q0:=Lib.hid fq0
   have Q1:=Lib.hid fq1
   clear fsz fq0 fq1
   go_wp2_with (first|(go_at_call 28;refine (HT.out _ fB).mono ?_;rintro _ w1 ⟨rfl,hb1⟩;clear x0 x1 x2 xl y0 y1 y2 yl;obtain ⟨x0,x1,x2,xl⟩:=c3_of (keepq hb1 Q0.out);obtain ⟨y0,y1,y2,yl⟩:=c3_of (keepq hb1 Q1.out))|(go_at_call 29;refine (HM.out _ (keep_trans fB hb1)).mono ?_;rintro _ w2 ⟨rfl,hb2⟩)|(go_at_call 48;refine (twhen_c _ _ _).mono ?_;rintro _ w3 ⟨rfl,rfl⟩))
   go_ret2
   exact ⟨by rw[HE.out];rfl,keep_trans (keep_trans fB hb1) hb2⟩
  | some cd =>
   obtain ⟨c9,d9⟩:=cd
   rw[hmr] at HM HE
   clear hmr
   go_enter Try.func11,Try.ntmps11
   go_wp2_with fail
   have fsz:((w.alloc (.cells #[.int .i64 (N:Int),.int .i64 (N:Int),.slice a n c] 31)).alloc (.cells #[.int .i64 (N:Int),.int .i64 (N:Int),.slice a2 n2 c2] 31)).heap.size=w.heap.size+2:=by simp only[World.size_alloc] <;> omega
   have fB:Below w.heap.size w ((w.alloc (.cells #[.int .i64 (N:Int),.int .i64 (N:Int),.slice a n c] 31)).alloc (.cells #[.int .i64 (N:Int),.int .i64 (N:Int),.slice a2 n2 c2] 31)):=((Below.refl _ _).alloc (Nat.le_refl _) _).alloc (by simp only[World.size_alloc];omega) _
   have fq0:((w.alloc (.cells #[.int .i64 (N:Int),.int .i64 (N:Int),.slice a n c] 31)).alloc (.cells #[.int .i64 (N:Int),.int .i64 (N:Int),.slice a2 n2 c2] 31)).heap[w.heap.size]?=some (.cells #[.int .i64 (N:Int),.int .i64 (N:Int),.slice a n c] 31 (0,0)):=by have h:=World.alloc_heap_new w (.cells #[.int .i64 (N:Int),.int .i64 (N:Int),.slice a n c] 31);exact (Below.heap_alloc _ _ _ (by simp only[World.size_alloc];omega)).trans (h)
   have fq1:((w.alloc (.cells #[.int .i64 (N:Int),.int .i64 (N:Int),.slice a n c] 31)).alloc (.cells #[.int .i64 (N:Int),.int .i64 (N:Int),.slice a2 n2 c2] 31)).heap[w.heap.size+1]?=some (.cells #[.int .i64 (N:Int),.int .i64 (N:Int),.slice a2 n2 c2] 31 (0,0)):=by have h:=World.alloc_heap_new (w.alloc (.cells #[.int .i64 (N:Int),.int .i64 (N:Int),.slice a n c] 31)) (.cells #[.int .i64 (N:Int),.int .i64 (N:Int),.slice a2 n2 c2] 31);simp only[World.size_alloc] at h;exact h
   generalize ((w.alloc (.cells #[.int .i64 (N:Int),.int .i64 (N:Int),.slice a n c] 31)).alloc (.cells #[.int .i64 (N:Int),.int .i64 (N:Int),.slice a2 n2 c2] 31))=W0 at fsz fB fq0 fq1 ⊢
   obtain ⟨x0,x1,x2,xl⟩:=c3_of fq0
   obtain ⟨y0,y1,y2,yl⟩:=c3_of fq1
   have Q0:=Lib.hid fq0
   have Q1:=Lib.hid fq1
   clear fsz fq0 fq1
   go_wp2_with (first|(go_at_call 28;refine (HT.out _ fB).mono ?_;rintro _ w1 ⟨rfl,hb1⟩;clear x0 x1 x2 xl y0 y1 y2 yl;obtain ⟨x0,x1,x2,xl⟩:=c3_of (keepq hb1 Q0.out);obtain ⟨y0,y1,y2,yl⟩:=c3_of (keepq hb1 Q1.out))|(go_at_call 29;refine (HM.out _ (keep_trans fB hb1)).mono ?_;rintro _ w2 ⟨rfl,hb2⟩)|(go_at_call 48;refine (twhen_c _ _ _).mono ?_;rintro _ w3 ⟨rfl,rfl⟩))
   go_ret2
   exact ⟨by rw[HE.out];rfl,keep_trans (keep_trans fB hb1) hb2⟩
 ·have HE:Hid (orthV r1 C1 cs r2 C2 ds = .tuple #[.bool false,.int .i64 (twoE r1 C1 cs r2 C2 ds)]):=by unfold Hid orthV;rw[if_neg h0]
  have h0':(twoE r1 C1 cs r2 C2 ds != 0)=true:=by simpa using h0
  generalize twoE r1 C1 cs r2 C2 ds=er at HT h0' HE
  clear h h2 h0
  go_enter Try.func11,Try.ntmps11
  go_wp2_with fail
  have fsz:((w.alloc (.cells #[.int .i64 r1,.int .i64 C1,.slice a n c] 31)).alloc (.cells #[.int .i64 r2,.int .i64 C2,.slice a2 n2 c2] 31)).heap.size=w.heap.size+2:=by simp only[World.size_alloc] <;> omega
  have fB:Below w.heap.size w ((w.alloc (.cells #[.int .i64 r1,.int .i64 C1,.slice a n c] 31)).alloc (.cells #[.int .i64 r2,.int .i64 C2,.slice a2 n2 c2] 31)):=((Below.refl _ _).alloc (Nat.le_refl _) _).alloc (by simp only[World.size_alloc];omega) _
  have fq0:((w.alloc (.cells #[.int .i64 r1,.int .i64 C1,.slice a n c] 31)).alloc (.cells #[.int .i64 r2,.int .i64 C2,.slice a2 n2 c2] 31)).heap[w.heap.size]?=some (.cells #[.int .i64 r1,.int .i64 C1,.slice a n c] 31 (0,0)):=by have h:=World.alloc_heap_new w (.cells #[.int .i64 r1,.int .i64 C1,.slice a n c] 31);exact (Below.heap_alloc _ _ _ (by simp only[World.size_alloc];omega)).trans (h)
  have fq1:((w.alloc (.cells #[.int .i64 r1,.int .i64 C1,.slice a n c] 31)).alloc (.cells #[.int .i64 r2,.int .i64 C2,.slice a2 n2 c2] 31)).heap[w.heap.size+1]?=some (.cells #[.int .i64 r2,.int .i64 C2,.slice a2 n2 c2] 31 (0,0)):=by have h:=World.alloc_heap_new (w.alloc (.cells #[.int .i64 r1,.int .i64 C1,.slice a n c] 31)) (.cells #[.int .i64 r2,.int .i64 C2,.slice a2 n2 c2] 31);simp only[World.size_alloc] at h;exact h
  generalize ((w.alloc (.cells #[.int .i64 r1,.int .i64 C1,.slice a n c] 31)).alloc (.cells #[.int .i64 r2,.int .i64 C2,.slice a2 n2 c2] 31))=W0 at fsz fB fq0 fq1 ⊢
  obtain ⟨x0,x1,x2,xl⟩:=c3_of fq0
  obtain ⟨y0,y1,y2,yl⟩:=c3_of fq1
  clear fsz fq0 fq1
  go_wp2_with (first|(go_at_call 28;refine (HT.out _ fB).mono ?_;rintro _ w1 ⟨rfl,hb1⟩))
  go_ret2
  exact ⟨by rw[HE.out];rfl,keep_trans fB hb1⟩
end
section
structure PermL (n:Nat) (p:List Int):Prop where
 len:p.length=n
 nodup:p.Nodup
 num:∀x,x∈p→0≤x∧x<(n:Int)
def nat (p:List Int) (i:Nat):Nat:=(p[i]?.getD 0).toNat
theorem PermL.get {n:Nat} {p:List Int} (P:PermL n p) {i:Nat} (hi:i<n):p[i]?.getD 0=(nat p i:Int)∧nat p i<n:=by
 have h2:=P.num (p[i]?.getD 0) (by rw[List.getElem?_eq_getElem (by rw[P.len];exact hi),Option.getD_some];exact List.getElem_mem _)
 unfold nat
 omega
theorem PermL.inj {n:Nat} {p:List Int} (P:PermL n p) {i j:Nat} (hi:i<n) (hj:j<n) (h:nat p i=nat p j):i=j:=by
 have h1:=(P.get hi).1
 have h2:=(P.get hj).1
 rw[List.getElem?_eq_getElem (by rw[P.len];exact hi),Option.getD_some] at h1
 rw[List.getElem?_eq_getElem (by rw[P.len];exact hj),Option.getD_some] at h2
 exact (List.getElem_inj (h₀:=by rw[P.len];exact hi) (h₁:=by rw[P.len];exact hj) P.nodup).1 (by rw[h1,h2,h])
theorem PermL.onto {n:Nat} {p:List Int} (P:PermL n p) {x:Nat} (hx:x<n):∃i,i<n∧nat p i=x:=by
 have h1:=full_mem P.nodup P.len P.num (x:=(x:Int)) (by omega) (by omega)
 obtain ⟨i,hi,e⟩:=List.getElem_of_mem h1
 refine ⟨i,by rw[← P.len];exact hi,?_⟩
 unfold nat
 rw[List.getElem?_eq_getElem hi,Option.getD_some,e]
 rfl
def sameL (n:Nat):List Int:=(List.range n).map fun (i:Nat)=>(i:Int)
theorem sameL_perm {n:Nat}:PermL n (sameL n):=by
 refine ⟨by unfold sameL;rw[List.length_map,List.length_range],?_,fun x hx=>?_⟩
 ·unfold sameL
  rw[List.nodup_iff_pairwise_ne,List.pairwise_map]
  exact (List.pairwise_lt_range (n:=n)).imp (fun {a b} h e=>by omega)
 ·obtain ⟨i,hi,e⟩:=List.mem_map.1 hx
  rw[List.mem_range] at hi
  omega
def isoPs (n:Nat) (rows cols names cs:List Int):List (Nat × Int):=(List.range (n*n)).map fun c=>(nat rows (c / n)*n+nat cols (c % n),names[nat cs c]?.getD 0)
def isoL (x:Int) (n:Nat) (rows cols names cs:List Int):List Int:=putAll (isoPs n rows cols names cs) (List.replicate (n*n) x)
theorem iso_len {x:Int} {n:Nat} {rows cols names cs:List Int}:(isoL x n rows cols names cs).length=n*n:=by unfold isoL;rw[putAll_len,List.length_replicate]
theorem cell_parts {n c:Nat} (hc:c<n*n):c / n<n∧c % n<n∧c=c / n*n+c % n:=by
 have hn:0<n:=by
  rcases Nat.eq_zero_or_pos n with h|h
  ·subst h;omega
  ·exact h
 exact ⟨Nat.div_lt_of_lt_mul hc,Nat.mod_lt _ hn,(Nat.div_add_mod' c n).symm⟩
theorem isoPs_nodup {n:Nat} {rows cols names cs:List Int} (R:PermL n rows) (K:PermL n cols):((isoPs n rows cols names cs).map (·.1)).Nodup:=by
 unfold isoPs
 rw[List.map_map,List.nodup_iff_pairwise_ne,List.pairwise_map]
 refine (List.pairwise_lt_range (n:=n*n)).imp_of_mem (fun {a b} ha hb hab e=>?_)
 rw[List.mem_range] at ha hb
 obtain ⟨a1,a2,a3⟩:=cell_parts ha
 obtain ⟨b1,b2,b3⟩:=cell_parts hb
 simp only[Function.comp] at e
 have d1:=gcell_div (n:=n) (i:=nat rows (a / n)) (K.get a2).2
 have d2:=gcell_div (n:=n) (i:=nat rows (b / n)) (K.get b2).2
 rw[e] at d1
 have h1:=R.inj a1 b1 (d1.1.symm.trans d2.1)
 have h2:=K.inj a2 b2 (d1.2.symm.trans d2.2)
 rw[h1,h2] at a3
 omega
theorem iso_get {x:Int} {n:Nat} {rows cols names cs:List Int} (R:PermL n rows) (K:PermL n cols) {i j:Nat} (hi:i<n) (hj:j<n):(isoL x n rows cols names cs)[nat rows i*n+nat cols j]?.getD 0=names[nat cs (i*n+j)]?.getD 0:=by
 obtain ⟨d1,d2⟩:=gcell_div (n:=n) (i:=i) hj
 have hm:(nat rows i*n+nat cols j,names[nat cs (i*n+j)]?.getD 0)∈isoPs n rows cols names cs:=by
  refine List.mem_map.2 ⟨i*n+j,List.mem_range.2 (gcell_lt hi hj),?_⟩
  rw[d1,d2]
 have h:=putAll_get (a:=List.replicate (n*n) x) (isoPs_nodup (names:=names) (cs:=cs) R K) hm (by rw[List.length_replicate];exact gcell_lt (R.get hi).2 (K.get hj).2)
 unfold isoL
 rw[h]
 rfl
theorem Latin.nat {n:Nat} {cs:List Int} (L:Latin n cs) {c:Nat} (hc:c<n*n):cs[c]?.getD 0=(nat cs c:Int)∧nat cs c<n:=by
 have:=L.get hc
 unfold Go.Proofs.Ytpkghjoippcjeaa.nat
 omega
theorem iso_latin {x:Int} {n:Nat} {rows cols names cs:List Int} (L:Latin n cs) (R:PermL n rows) (K:PermL n cols) (M:PermL n names):Latin n (isoL x n rows cols names cs):=by
 have hat:∀p,p<n*n→∃i j,i<n∧j<n∧nat rows i=p / n∧nat cols j=p % n∧(isoL x n rows cols names cs)[p]?.getD 0=(nat names (nat cs (i*n+j)):Int)∧nat names (nat cs (i*n+j))<n:=fun p hp=>by
  obtain ⟨a1,a2,a3⟩:=cell_parts hp
  obtain ⟨i,hi,e1⟩:=R.onto a1
  obtain ⟨j,hj,e2⟩:=K.onto a2
  have h1:=iso_get (x:=x) (names:=names) (cs:=cs) R K hi hj
  rw[e1,e2,← a3] at h1
  have h2:=(L.nat (gcell_lt hi hj)).2
  exact ⟨i,j,hi,hj,e1,e2,by rw[h1,(M.get h2).1],(M.get h2).2⟩
 refine ⟨iso_len,L.pos,L.le,fun y hy=>?_,?_⟩
 ·obtain ⟨p,hp,e⟩:=List.getElem_of_mem hy
  rw[iso_len] at hp
  obtain ⟨i,j,_,_,_,_,h1,h2⟩:=hat p hp
  rw[List.getElem?_eq_getElem (by rw[iso_len];exact hp),Option.getD_some,e] at h1
  omega
 ·rw[once_iff]
  intro p q hp hq hpq hl he
  rw[iso_len] at hp hq
  obtain ⟨i,j,hi,hj,e1,e2,h1,h2⟩:=hat p hp
  obtain ⟨k,m,hk,hm,f1,f2,g1,g2⟩:=hat q hq
  rw[h1,g1] at he
  have h3:nat names (nat cs (i*n+j))=nat names (nat cs (k*n+m)):=by omega
  have c1:=L.nat (gcell_lt hi hj)
  have c2:=L.nat (gcell_lt hk hm)
  have h4:=M.inj c1.2 c2.2 h3
  obtain ⟨d1,d2⟩:=gcell_div (n:=n) (i:=i) hj
  obtain ⟨d3,d4⟩:=gcell_div (n:=n) (i:=k) hm
  have hne:i*n+j≠k*n+m:=fun e=>by
   rw[e] at d1 d2
   have a1:k=i:=d3.symm.trans d1
   have a2:m=j:=d4.symm.trans d2
   subst a1 a2
   have b1:=(cell_parts hp).2.2
   have b2:=(cell_parts hq).2.2
   rw[← e1,← e2] at b1
   rw[← f1,← f2] at b2
   omega
  have hl2:lineB n (i*n+j) (k*n+m)=true:=by
   unfold lineB at hl ⊢
   rw[Bool.or_eq_true,beq_iff_eq,beq_iff_eq] at hl ⊢
   rw[d1,d2,d3,d4]
   rcases hl with h|h
   ·exact Or.inl (R.inj hi hk (by rw[e1,f1,h]))
   ·exact Or.inr (K.inj hj hm (by rw[e2,f2,h]))
  have:=once_iff.1 L.once _ _ (by rw[L.len];exact gcell_lt hi hj) (by rw[L.len];exact gcell_lt hk hm) hne hl2 (by rw[c1.1,c2.1,h4])
  omega
def rowZ (n:Nat) (cs:List Int):List Int:=cs.take n
def colZ (n:Nat) (cs:List Int):List Int:=(List.range n).map fun i=>cs[i*n]?.getD 0
def reduL (x:Int) (n:Nat) (cs:List Int):List Int:=isoL x n (colZ n (isoL x n (sameL n) (rowZ n cs) (sameL n) cs)) (sameL n) (sameL n) (isoL x n (sameL n) (rowZ n cs) (sameL n) cs)
theorem Latin.rowZ {n:Nat} {cs:List Int} (L:Latin n cs):PermL n (rowZ n cs):=by
 have hle:n≤n*n:=Nat.le_mul_of_pos_left n (by have:=L.pos;omega)
 have hlen:(Go.Proofs.Ytpkghjoippcjeaa.rowZ n cs).length=n:=by unfold Go.Proofs.Ytpkghjoippcjeaa.rowZ;rw[List.length_take,L.len];omega
 refine ⟨hlen,?_,fun x hx=>L.num x (List.mem_of_mem_take hx)⟩
 rw[List.nodup_iff_pairwise_ne,List.pairwise_iff_getElem]
 intro i j hi hj hij e
 have e2:(Go.Proofs.Ytpkghjoippcjeaa.rowZ n cs)[i]?=(Go.Proofs.Ytpkghjoippcjeaa.rowZ n cs)[j]?:=by rw[List.getElem?_eq_getElem hi,List.getElem?_eq_getElem hj,e]
 clear e
 rw[hlen] at hi hj
 unfold Go.Proofs.Ytpkghjoippcjeaa.rowZ at e2
 rw[List.getElem?_take,List.getElem?_take,if_pos hi,if_pos hj] at e2
 have hl:=L.len
 have h1:=once_iff.1 L.once i j (by omega) (by omega) (by omega) (by unfold lineB;rw[Nat.div_eq_of_lt hi,Nat.div_eq_of_lt hj];simp) (by rw[e2])
 have h2:=L.get (c:=i) (by omega)
 omega
theorem Latin.colZ {n:Nat} {cs:List Int} (L:Latin n cs):PermL n (colZ n cs):=by
 have hpos:=L.pos
 have hc:∀i,i<n→i*n<n*n:=fun i hi=>Nat.mul_lt_mul_of_pos_right hi (by omega)
 refine ⟨by unfold Go.Proofs.Ytpkghjoippcjeaa.colZ;rw[List.length_map,List.length_range],?_,fun x hx=>?_⟩
 ·unfold Go.Proofs.Ytpkghjoippcjeaa.colZ
  rw[List.nodup_iff_pairwise_ne,List.pairwise_map]
  refine (List.pairwise_lt_range (n:=n)).imp_of_mem (fun {a b} ha hb hab e=>?_)
  rw[List.mem_range] at ha hb
  have hne:a*n≠b*n:=fun e2=>by have:=Nat.eq_of_mul_eq_mul_right (by omega) e2;omega
  have h1:=once_iff.1 L.once (a*n) (b*n) (by rw[L.len];exact hc a ha) (by rw[L.len];exact hc b hb) hne (by unfold lineB;rw[Nat.mul_mod_left,Nat.mul_mod_left];simp) e
  have h2:=L.get (hc a ha)
  omega
 ·obtain ⟨i,hi,e⟩:=List.mem_map.1 hx
  rw[← e]
  exact L.get (hc i (List.mem_range.1 hi))
theorem redu_latin {x:Int} {n:Nat} {cs:List Int} (L:Latin n cs):Latin n (reduL x n cs):=by
 have h1:=iso_latin (x:=x) L sameL_perm L.rowZ sameL_perm
 exact iso_latin h1 h1.colZ sameL_perm sameL_perm
end
end Go.Proofs.Ytpkghjoippcjeaa
